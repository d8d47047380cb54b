/- The functions that the law ExtentCircuits reaches, each by its contract. Part 3. -/
import Derived.Test.YtlhnpkaohfoicaaExtentCircuitsW2
namespace Go.Proofs.Ytlhnpkaohfoicaa
open Go.KL

set_option maxRecDepth 100000 in
theorem rOrder_fn (r : List Int) (σ : GW)  (v0 : Value) (hv0 : Ty.has (Ty.lst Ty.int r) σ v0)  (hr : IsRow r) :
    FnC Try.prog 22 #[v0] σ (Ty.tup2 (Ty.nat (ordL r)) (Ty.bool (oddL r))) := by
 have hln := hr.le
 have hpo := ordL_pos hr
 have hle : ordL r ≤ 27720 := (ordTo_le hr _ (Nat.le_refl _)).2
 refine fn_intro0 Try.func22 rfl Try.ntmps22 (Nat.le_of_ble_eq_true rfl) (fun s0 a0 hle F0 ok0 hargs => ?_)
 have p0 : At (Ty.lst Ty.int r) s0 a0 (.tmp 0) := by have e := hargs 0 _ rfl; show Ty.has _ _ _; rw [e]; exact Ty.up _ hle hv0
 have b1 := sl_le p0
 clear hargs
 refine wp_seq ?_
 refine reg (a := a0) (σ := s0) rfl (fun i_ => List.getD [(Ty.pr (Ty.int (0 : Int))), (Ty.pr (Ty.bool false))] i_ Pr.any) ok0 rfl ⟨?_, ?_, trivial⟩ ?_
 · intro ax tx hs okx sm
   exact run_plain rfl (y_assign rfl)
 · intro ax tx hs okx sm d0
   have e0 : At (Ty.int (0 : Int)) tx ax (.tmp 2) := d0 rfl
   exact run_plain rfl (y_assign rfl)
 intro a1 s1 D1
 have ok1 := D1.ok
 have F1 := F0.step0 D1.stp
 have q1 : At (Ty.lst Ty.int r) s1 a1 (.tmp 0) := D1.kt p0 rfl
 clear D1
 refine tn ?_
 refine wp_seq ?_
 refine reg (a := a1) (σ := s1) rfl (fun i_ => List.getD [(Ty.pr (Ty.int (1 : Int)))] i_ Pr.any) ok1 rfl ⟨?_, trivial⟩ ?_
 · intro ax tx hs okx sm
   exact run_plain rfl (y_assign rfl)
 intro a2 s2 D2
 have ok2 := D2.ok
 have F2 := F1.step0 D2.stp
 have q2 : At (Ty.lst Ty.int r) s2 a2 (.tmp 0) := D2.kt q1 rfl
 have q3 : At (Ty.int (1 : Int)) s2 a2 (.tmp 4) := D2.done 0
 clear D2
 refine tn ?_
 refine wp_seq ?_
 refine reg2 (a := a2) (σ := s2) rfl 2 (fun i_ => List.getD [(Pr.own 2 3 1 0 (List.map Ty.int ([] : List Int))), (Ty.pr (Ty.lst Ty.int r))] i_ Pr.any) ok2 rfl (by decide) rfl ⟨?_, ?_, trivial⟩ ?_
 · intro ax tx hs okx sm
   exact run_plain rfl ((y_lit0 (k := 2) Try.underlying34 Try.inf3).mono (fun _ _ h => cvo (by simp) (by simp) h))
 · intro ax tx hs okx sm
   exact run_plain rfl (y_move (kp (sm 0 rfl) hs q2))
 intro a3 s3 D3
 have ok3 := D3.ok
 have F3 := F2.step0 D3.stp
 have q4 : At (Ty.lst Ty.int r) s3 a3 (.tmp 0) := D3.kt q2 rfl
 have q5 : At (Ty.int (1 : Int)) s3 a3 (.tmp 4) := D3.kt q3 rfl
 obtain ⟨x1, hx1⟩ : ∃ x, a3.eval (.tmp 10) = x := ⟨_, rfl⟩
 have q6 : At (Ty.val x1) s3 a3 (.tmp 10) := hx1
 have o1 : Own s3 2 3 1 x1 0 (List.map Ty.int ([] : List Int)) := al2 (R := (Pr.own 2 3 1 0 (List.map Ty.int ([] : List Int)))) hx1 (D3.done 0 (by decide))
 have q7 : At (Ty.lst Ty.int r) s3 a3 (.tmp 11) := D3.done 1 (by decide)
 clear D3
 refine tailL (L := [2]) (R := (fun v τ => Own τ 2 3 1 v (0 + (List.length r)) ((List.map Ty.int ([] : List Int)) ++ (List.map Ty.int r)))) rfl rfl (by decide) ok3 (YldM.toL (m_append Try.underlying34 Try.inf3 (by decide) rfl (by decide) (al (R := (Pr.own 2 3 1 0 (List.map Ty.int ([] : List Int)))) q6 o1) q7 (by intro U hU; simp at hU; obtain ⟨_, _, rfl⟩ := hU; exact one_val rfl) (by omega) (by omega))) (fun a4 s4 hs1 ok4 r1 sm1 => ?_)
 have F4 := F3.stepL hs1 (by decide)
 have q8 : At (Ty.lst Ty.int r) s4 a4 (.tmp 0) := kpL hs1 (by decide) (sm1 0 (by decide)) q4
 have q9 : At (Ty.int (1 : Int)) s4 a4 (.tmp 4) := kpL hs1 (by decide) (sm1 4 (by decide)) q5
 obtain ⟨x2, hx2⟩ : ∃ x, a4.eval (.tmp 12) = x := ⟨_, rfl⟩
 have q10 : At (Ty.val x2) s4 a4 (.tmp 12) := hx2
 have o2 : Own s4 2 3 1 x2 (List.length r) (List.map Ty.int r) := al2 (R := (Pr.own 2 3 1 (List.length r) (List.map Ty.int r))) hx2 (cvo (by simp) (by first | (rw [List.map_append]; rfl) | simp) r1)
 clear r1
 refine tailL (L := []) (R := (fun v τ => Pr.has (Ty.pr (Ty.val x2)) τ v)) rfl rfl (by decide) ok4 (Yld.toL (y_assign q10)) (fun a5 s5 hs2 ok5 r2 sm2 => ?_)
 have F5 := F4.stepL hs2 (by decide)
 have q11 : At (Ty.lst Ty.int r) s5 a5 (.tmp 0) := kpL hs2 (by decide) (sm2 0 (by decide)) q8
 have q12 : At (Ty.int (1 : Int)) s5 a5 (.tmp 4) := kpL hs2 (by decide) (sm2 4 (by decide)) q9
 have o3 := Own.keepL o2 hs2 (by decide) (by decide)
 have q13 : At (Ty.val x2) s5 a5 (.tmp 5) := r2
 clear r2
 refine wpList_nil ?_
 have o4 : Own s5 2 3 1 x2 (List.length r) (List.map Ty.int r) := o3
 refine tn ?_
 refine wp_seq ?_
 refine reg (a := a5) (σ := s5) rfl (fun i_ => List.getD [(Ty.pr (Ty.lst Ty.int r)), (Ty.pr (Ty.nat (List.length r))), (Ty.pr (Ty.lst Ty.int (roundsL ((List.length r))))), (Ty.pr (Ty.lst Ty.int (roundsL ((List.length r)))))] i_ Pr.any) ok5 rfl ⟨?_, ?_, ?_, ?_, trivial⟩ ?_
 · intro ax tx hs okx sm
   exact run_plain rfl (y_move (kp (sm 0 rfl) hs q11))
 · intro ax tx hs okx sm d0
   have e0 : At (Ty.lst Ty.int r) tx ax (.tmp 13) := d0 rfl
   exact run_plain rfl (y_len Try.underlying34 e0)
 · intro ax tx hs okx sm d0
   have e1 : At (Ty.nat (List.length r)) tx ax (.tmp 14) := d0 rfl
   exact run_plain rfl (y_call #[ax.eval (.tmp 14)] Try.func24 rfl rfl (by simp only [List.map_toArray, List.map_cons, List.map_nil]) (rRounds_fn ((List.length r)) _ _ (cvi (σ := tx) (by omega) e1) (by omega)))
 · intro ax tx hs okx sm d0 d1 d2 d3 d4
   have e2 : At (Ty.lst Ty.int (roundsL ((List.length r)))) tx ax (.tmp 15) := d0 rfl
   have e0 : At (Ty.lst Ty.int r) tx ax (.tmp 13) := d2 rfl
   have e1 : At (Ty.nat (List.length r)) tx ax (.tmp 14) := d3 rfl
   exact run_plain rfl (y_assign e2)
 intro a6 s6 D4
 have ok6 := D4.ok
 have F6 := F5.step0 D4.stp
 have q14 : At (Ty.lst Ty.int r) s6 a6 (.tmp 0) := D4.kt q11 rfl
 have q15 : At (Ty.int (1 : Int)) s6 a6 (.tmp 4) := D4.kt q12 rfl
 have q16 : At (Ty.val x2) s6 a6 (.tmp 5) := D4.kt q13 rfl
 have o5 := Own.k0 o4 D4.stp
 have q17 : At (Ty.lst Ty.int (roundsL ((List.length r)))) s6 a6 (.tmp 6) := D4.done 3
 clear D4
 refine tn ?_
 refine wp_seq ?_
 refine wp_block ?_
 obtain ⟨t1, e1, h1, q18⟩ := Own.seal o5 (by decide)
 rw [← e1]
 have F7 := F6.step h1 (by decide)
 have q19 := Ty.up (Ty.lst Ty.int r) (h1.le (by decide)) q14
 have q20 := Ty.up (Ty.int (1 : Int)) (h1.le (by decide)) q15
 have q21 : At (Ty.lst Ty.int r) t1 a6 (.tmp 5) := by have e : a6.eval (.tmp 5) = x2 := q16; show Ty.has _ _ _; rw [e]; exact q18
 have q22 := Ty.up (Ty.lst Ty.int (roundsL ((List.length r)))) (h1.le (by decide)) q17
 refine loop (fun n1 a7 w1 => ∃ (t2 : GW) (m : Nat), t2.w = w1 ∧ FromL [] s0 t2 ∧ Ok 51 a7 ∧ At (Ty.nat m) t2 a7 (.tmp 4) ∧ At (Ty.lst Ty.int (powL r.length r m)) t2 a7 (.tmp 5) ∧ At (Ty.lst Ty.int r) t2 a7 (.tmp 0) ∧ At (Ty.lst Ty.int (roundsL ((List.length r)))) t2 a7 (.tmp 6) ∧ (1 ≤ m) ∧ (m ≤ ordL r) ∧ n1 = ordL r - m) (ordL r - (1)) ?_ ?_
 ·
  exact ⟨t1, 1, rfl, F7, ok6, (cvi (by (rfl)) q20), (cvt (by (exact congrArg _ (pow_one hr rfl).symm)) q21), q19, q22, by omega, by omega, rfl⟩
 ·
  rintro n2 a8 w2 ⟨t3, m, rfl, F8, ok7, q23, q24, q25, q26, h1, hm, rfl⟩
  have hst := pow_stop hr h1 hm
  have hpl := powL_len (n := r.length) (h := r) rfl m
  have hbd : ∀ i, i < r.length → 0 ≤ r.getD i 0 ∧ r.getD i 0 < (powL r.length r m).length := (fun i hi => by rw [hpl]; exact hr.at hi)
  refine wp_seq ?_
  refine wp_seq ?_
  refine reg (a := a8) (σ := t3) rfl (fun i_ => List.getD [(Ty.pr (Ty.lst Ty.int (powL r.length r m))), (Ty.pr (Ty.lst Ty.int (roundsL ((List.length r))))), (Ty.pr (Ty.bool (decide (((powL r.length r m)) = ((roundsL ((List.length r)))))))), (Ty.pr (Ty.bool (!(decide (((powL r.length r m)) = ((roundsL ((List.length r)))))))))] i_ Pr.any) ok7 rfl ⟨?_, ?_, ?_, ?_, trivial⟩ ?_
  · intro ax tx hs okx sm
    exact run_plain rfl (y_move (kp (sm 5 rfl) hs q24))
  · intro ax tx hs okx sm
    exact run_plain rfl (y_move (kp (sm 6 rfl) hs q26))
  · intro ax tx hs okx sm d0 d1
    have e0 : At (Ty.lst Ty.int (powL r.length r m)) tx ax (.tmp 16) := d0 rfl
    have e1 : At (Ty.lst Ty.int (roundsL ((List.length r)))) tx ax (.tmp 17) := d1 rfl
    exact run_plain rfl (y_call #[ax.eval (.tmp 16), ax.eval (.tmp 17)] Try.func25 rfl rfl (by simp only [List.map_toArray, List.map_cons, List.map_nil]) (rsame_fn ((powL r.length r m)) ((roundsL ((List.length r)))) _ _ _ e0 e1 ))
  · intro ax tx hs okx sm d0
    have e2 : At (Ty.bool (decide (((powL r.length r m)) = ((roundsL ((List.length r))))))) tx ax (.tmp 18) := d0 rfl
    exact run_plain rfl (y_not e2)
  intro a9 s7 D5
  have ok8 := D5.ok
  have F9 := F8.step0 D5.stp
  have q27 : At (Ty.nat m) s7 a9 (.tmp 4) := D5.kt q23 rfl
  have q28 : At (Ty.lst Ty.int (powL r.length r m)) s7 a9 (.tmp 5) := D5.kt q24 rfl
  have q29 : At (Ty.lst Ty.int r) s7 a9 (.tmp 0) := D5.kt q25 rfl
  have q30 : At (Ty.lst Ty.int (roundsL ((List.length r)))) s7 a9 (.tmp 6) := D5.kt q26 rfl
  have q31 : At (Ty.bool (!(decide (((powL r.length r m)) = ((roundsL ((List.length r)))))))) s7 a9 (.tmp 19) := D5.done 3
  clear D5
  refine tn ?_
  refine cond_t q31 (fun c1 => ?_) (fun c1 => ?_)
  ·
   have hne : powL r.length r m ≠ roundsL r.length := (by simpa using c1); have hmo : m ≠ ordL r := fun e => hne (hst.2 e)
   refine wp_skip ?_
   refine tn ?_
   refine wp_block ?_
   refine wp_seq ?_
   refine reg (a := a9) (σ := s7) rfl (fun i_ => List.getD [(Ty.pr (Ty.lst Ty.int (powL r.length r m))), (Ty.pr (Ty.lst Ty.int r)), (Ty.pr (Ty.lst Ty.int (byL ((powL r.length r m)) (r)))), (Ty.pr (Ty.lst Ty.int (byL ((powL r.length r m)) (r))))] i_ Pr.any) ok8 rfl ⟨?_, ?_, ?_, ?_, trivial⟩ ?_
   · intro ax tx hs okx sm
     exact run_plain rfl (y_move (kp (sm 5 rfl) hs q28))
   · intro ax tx hs okx sm
     exact run_plain rfl (y_move (kp (sm 0 rfl) hs q29))
   · intro ax tx hs okx sm d0 d1
     have e0 : At (Ty.lst Ty.int (powL r.length r m)) tx ax (.tmp 20) := d0 rfl
     have e1 : At (Ty.lst Ty.int r) tx ax (.tmp 21) := d1 rfl
     exact run_plain rfl (y_call #[ax.eval (.tmp 20), ax.eval (.tmp 21)] Try.func51 rfl rfl (by simp only [List.map_toArray, List.map_cons, List.map_nil]) (rBy_fn ((powL r.length r m)) (r) _ _ _ e0 e1 (by first | assumption | omega) (by first | assumption | omega)))
   · intro ax tx hs okx sm d0 d1 d2 d3 d4
     have e2 : At (Ty.lst Ty.int (byL ((powL r.length r m)) (r))) tx ax (.tmp 22) := d0 rfl
     have e0 : At (Ty.lst Ty.int (powL r.length r m)) tx ax (.tmp 20) := d2 rfl
     have e1 : At (Ty.lst Ty.int r) tx ax (.tmp 21) := d3 rfl
     exact run_plain rfl (y_assign e2)
   intro a10 s8 D6
   have ok9 := D6.ok
   have F10 := F9.step0 D6.stp
   have q32 : At (Ty.nat m) s8 a10 (.tmp 4) := D6.kt q27 rfl
   have q33 : At (Ty.lst Ty.int r) s8 a10 (.tmp 0) := D6.kt q29 rfl
   have q34 : At (Ty.lst Ty.int (roundsL ((List.length r)))) s8 a10 (.tmp 6) := D6.kt q30 rfl
   have q35 : At (Ty.lst Ty.int (byL ((powL r.length r m)) (r))) s8 a10 (.tmp 5) := D6.done 3
   clear D6
   refine tn ?_
   refine reg (a := a10) (σ := s8) rfl (fun i_ => List.getD [(Ty.pr (Ty.nat m)), (Ty.pr (Ty.nat (m + 1))), (Ty.pr (Ty.nat (m + 1)))] i_ Pr.any) ok9 rfl ⟨?_, ?_, ?_, trivial⟩ ?_
   · intro ax tx hs okx sm
     exact run_plain rfl (y_move (kp (sm 4 rfl) hs q32))
   · intro ax tx hs okx sm d0
     have e0 : At (Ty.nat m) tx ax (.tmp 23) := d0 rfl
     exact run_plain rfl ((y_add e0 rfl (w64 (by omega) (by omega))).mono (fun τ _ h => cvi (σ := τ) (by first | omega | exact (Int.natCast_mul _ _).symm) h))
   · intro ax tx hs okx sm d0 d1 d2
     have e1 : At (Ty.nat (m + 1)) tx ax (.tmp 24) := d0 rfl
     have e0 : At (Ty.nat m) tx ax (.tmp 23) := d1 rfl
     exact run_plain rfl (y_assign e1)
   intro a11 s9 D7
   have ok10 := D7.ok
   have F11 := F10.step0 D7.stp
   have q36 : At (Ty.lst Ty.int r) s9 a11 (.tmp 0) := D7.kt q33 rfl
   have q37 : At (Ty.lst Ty.int (roundsL ((List.length r)))) s9 a11 (.tmp 6) := D7.kt q34 rfl
   have q38 : At (Ty.lst Ty.int (byL ((powL r.length r m)) (r))) s9 a11 (.tmp 5) := D7.kt q35 rfl
   have q39 : At (Ty.nat (m + 1)) s9 a11 (.tmp 4) := D7.done 2
   clear D7
   refine bn ?_
   exact tn ⟨ordL r - ((m + 1)), by omega, s9, (m + 1), rfl, F11, ok10, (cvi (by (first | rfl | omega | (simp_all; done) | (simp_all; omega))) q39), (cvt (by (rfl)) q38), q36, q37, by omega, by omega, rfl⟩
  ·
   have he : powL r.length r m = roundsL r.length := (by simpa using c1); have hmo := hst.1 he
   refine wp_exit ?_
   refine tx ?_
   refine tx ?_
   refine bx ?_
   refine tn ?_
   refine wp_seq ?_
   refine reg (a := a9) (σ := s7) rfl (fun i_ => List.getD [(Ty.pr (Ty.int (0 : Int)))] i_ Pr.any) ok8 rfl ⟨?_, trivial⟩ ?_
   · intro ax tx hs okx sm
     exact run_plain rfl (y_assign rfl)
   intro a12 s10 D8
   have ok11 := D8.ok
   have F12 := F9.step0 D8.stp
   have q40 : At (Ty.nat m) s10 a12 (.tmp 4) := D8.kt q27 rfl
   have q41 : At (Ty.lst Ty.int r) s10 a12 (.tmp 0) := D8.kt q29 rfl
   have q42 : At (Ty.int (0 : Int)) s10 a12 (.tmp 7) := D8.done 0
   clear D8
   refine tn ?_
   refine wp_seq ?_
   refine wp_seq ?_
   refine reg (a := a12) (σ := s10) rfl (fun i_ => List.getD [(Ty.pr (Ty.int (0 : Int)))] i_ Pr.any) ok11 rfl ⟨?_, trivial⟩ ?_
   · intro ax tx hs okx sm
     exact run_plain rfl (y_assign rfl)
   intro a13 s11 D9
   have ok12 := D9.ok
   have F13 := F12.step0 D9.stp
   have q43 : At (Ty.nat m) s11 a13 (.tmp 4) := D9.kt q40 rfl
   have q44 : At (Ty.lst Ty.int r) s11 a13 (.tmp 0) := D9.kt q41 rfl
   have q45 : At (Ty.int (0 : Int)) s11 a13 (.tmp 7) := D9.kt q42 rfl
   have q46 : At (Ty.int (0 : Int)) s11 a13 (.tmp 8) := D9.done 0
   clear D9
   refine tn ?_
   refine wp_block ?_
   refine loop (fun n3 a14 w3 => ∃ (t4 : GW) (i : Nat), t4.w = w3 ∧ FromL [] s0 t4 ∧ Ok 51 a14 ∧ At (Ty.nat i) t4 a14 (.tmp 8) ∧ At (Ty.nat (wrN r i)) t4 a14 (.tmp 7) ∧ At (Ty.nat m) t4 a14 (.tmp 4) ∧ At (Ty.lst Ty.int r) t4 a14 (.tmp 0) ∧ (i ≤ r.length) ∧ n3 = r.length - i) (r.length - (0)) ?_ ?_
   ·
    exact ⟨s11, 0, rfl, F13, ok12, (cvi (by (first | rfl | omega | (simp_all; done) | (simp_all; omega))) q46), (cvi (by (rfl)) q45), q43, q44, by omega, rfl⟩
   ·
    rintro n4 a15 w4 ⟨t5, i, rfl, F14, ok13, q47, q48, q49, q50, hi, rfl⟩
    have hwl := wrN_le r i
    have hii := Nat.mul_le_mul (show i ≤ 12 by omega) (show i ≤ 12 by omega)
    refine wp_seq ?_
    refine wp_seq ?_
    refine reg (a := a15) (σ := t5) rfl (fun i_ => List.getD [(Ty.pr (Ty.nat i)), (Ty.pr (Ty.lst Ty.int r)), (Ty.pr (Ty.nat (List.length r))), (Ty.pr (Ty.bool (decide (((i : Nat) : Int) < (((List.length r) : Nat) : Int)))))] i_ Pr.any) ok13 rfl ⟨?_, ?_, ?_, ?_, trivial⟩ ?_
    · intro ax tx hs okx sm
      exact run_plain rfl (y_move (kp (sm 8 rfl) hs q47))
    · intro ax tx hs okx sm
      exact run_plain rfl (y_move (kp (sm 0 rfl) hs q50))
    · intro ax tx hs okx sm d0
      have e1 : At (Ty.lst Ty.int r) tx ax (.tmp 26) := d0 rfl
      exact run_plain rfl (y_len Try.underlying34 e1)
    · intro ax tx hs okx sm d0 d1
      have e0 : At (Ty.nat i) tx ax (.tmp 25) := d0 rfl
      have e2 : At (Ty.nat (List.length r)) tx ax (.tmp 27) := d1 rfl
      exact run_plain rfl (y_lss e0 e2)
    intro a16 s12 D10
    have ok14 := D10.ok
    have F15 := F14.step0 D10.stp
    have q51 : At (Ty.nat i) s12 a16 (.tmp 8) := D10.kt q47 rfl
    have q52 : At (Ty.nat (wrN r i)) s12 a16 (.tmp 7) := D10.kt q48 rfl
    have q53 : At (Ty.nat m) s12 a16 (.tmp 4) := D10.kt q49 rfl
    have q54 : At (Ty.lst Ty.int r) s12 a16 (.tmp 0) := D10.kt q50 rfl
    have q55 : At (Ty.bool (decide (((i : Nat) : Int) < (((List.length r) : Nat) : Int)))) s12 a16 (.tmp 28) := D10.done 3
    clear D10
    refine tn ?_
    refine cond_p (p := (((i : Nat) : Int) < (((List.length r) : Nat) : Int))) q55 (fun c2 => ?_) (fun c2 => ?_)
    ·
     refine wp_skip ?_
     refine tn ?_
     refine wp_seq ?_
     refine wp_block ?_
     refine wp_seq ?_
     refine reg (a := a16) (σ := s12) rfl (fun i_ => List.getD [(Ty.pr (Ty.int (0 : Int)))] i_ Pr.any) ok14 rfl ⟨?_, trivial⟩ ?_
     · intro ax tx hs okx sm
       exact run_plain rfl (y_assign rfl)
     intro a17 s13 D11
     have ok15 := D11.ok
     have F16 := F15.step0 D11.stp
     have q56 : At (Ty.nat i) s13 a17 (.tmp 8) := D11.kt q51 rfl
     have q57 : At (Ty.nat (wrN r i)) s13 a17 (.tmp 7) := D11.kt q52 rfl
     have q58 : At (Ty.nat m) s13 a17 (.tmp 4) := D11.kt q53 rfl
     have q59 : At (Ty.lst Ty.int r) s13 a17 (.tmp 0) := D11.kt q54 rfl
     have q60 : At (Ty.int (0 : Int)) s13 a17 (.tmp 9) := D11.done 0
     clear D11
     refine tn ?_
     refine wp_block ?_
     refine loop (fun n5 a18 w5 => ∃ (t6 : GW) (k : Nat), t6.w = w5 ∧ FromL [] s0 t6 ∧ Ok 51 a18 ∧ At (Ty.nat k) t6 a18 (.tmp 9) ∧ At (Ty.nat (wrN r i + ((r.take k).countP fun x => decide (r.getD i 0 < x)))) t6 a18 (.tmp 7) ∧ At (Ty.nat i) t6 a18 (.tmp 8) ∧ At (Ty.nat m) t6 a18 (.tmp 4) ∧ At (Ty.lst Ty.int r) t6 a18 (.tmp 0) ∧ (k ≤ i) ∧ n5 = i - k) (i - (0)) ?_ ?_
     ·
      exact ⟨s13, 0, rfl, F16, ok15, (cvi (by (first | rfl | omega | (simp_all; done) | (simp_all; omega))) q60), (cvi (by (simp)) q57), q56, q58, q59, by omega, rfl⟩
     ·
      rintro n6 a19 w6 ⟨t7, k, rfl, F17, ok16, q61, q62, q63, q64, q65, hk, rfl⟩
      have hcl : (r.take k).countP (fun x => decide (r.getD i 0 < x)) ≤ (r.take k).length := List.countP_le_length
      have htl := List.length_take_le k r
      refine wp_seq ?_
      refine wp_seq ?_
      refine reg (a := a19) (σ := t7) rfl (fun i_ => List.getD [(Ty.pr (Ty.nat k)), (Ty.pr (Ty.nat i)), (Ty.pr (Ty.bool (decide (((k : Nat) : Int) < ((i : Nat) : Int)))))] i_ Pr.any) ok16 rfl ⟨?_, ?_, ?_, trivial⟩ ?_
      · intro ax tx hs okx sm
        exact run_plain rfl (y_move (kp (sm 9 rfl) hs q61))
      · intro ax tx hs okx sm
        exact run_plain rfl (y_move (kp (sm 8 rfl) hs q63))
      · intro ax tx hs okx sm d0 d1
        have e0 : At (Ty.nat k) tx ax (.tmp 31) := d0 rfl
        have e1 : At (Ty.nat i) tx ax (.tmp 32) := d1 rfl
        exact run_plain rfl (y_lss e0 e1)
      intro a20 s14 D12
      have ok17 := D12.ok
      have F18 := F17.step0 D12.stp
      have q66 : At (Ty.nat k) s14 a20 (.tmp 9) := D12.kt q61 rfl
      have q67 : At (Ty.nat (wrN r i + ((r.take k).countP fun x => decide (r.getD i 0 < x)))) s14 a20 (.tmp 7) := D12.kt q62 rfl
      have q68 : At (Ty.nat i) s14 a20 (.tmp 8) := D12.kt q63 rfl
      have q69 : At (Ty.nat m) s14 a20 (.tmp 4) := D12.kt q64 rfl
      have q70 : At (Ty.lst Ty.int r) s14 a20 (.tmp 0) := D12.kt q65 rfl
      have q71 : At (Ty.bool (decide (((k : Nat) : Int) < ((i : Nat) : Int)))) s14 a20 (.tmp 33) := D12.done 2
      clear D12
      refine tn ?_
      refine cond_p (p := (((k : Nat) : Int) < ((i : Nat) : Int))) q71 (fun c3 => ?_) (fun c3 => ?_)
      ·
       refine wp_skip ?_
       refine tn ?_
       refine wp_seq ?_
       refine wp_block ?_
       refine wp_seq ?_
       refine reg (a := a20) (σ := s14) rfl (fun i_ => List.getD [(Ty.pr (Ty.lst Ty.int r)), (Ty.pr (Ty.nat k)), (Ty.pr (Ty.ref [(Ty.int (r.getD k 0))])), (Ty.pr (Ty.int (r.getD k 0))), (Ty.pr (Ty.lst Ty.int r)), (Ty.pr (Ty.nat i)), (Ty.pr (Ty.ref [(Ty.int (r.getD i 0))])), (Ty.pr (Ty.int (r.getD i 0))), (Ty.pr (Ty.bool (decide ((r.getD i 0) < (r.getD k 0)))))] i_ Pr.any) ok17 rfl ⟨?_, ?_, ?_, ?_, ?_, ?_, ?_, ?_, ?_, trivial⟩ ?_
       · intro ax tx hs okx sm
         exact run_plain rfl (y_move (kp (sm 0 rfl) hs q70))
       · intro ax tx hs okx sm
         exact run_plain rfl (y_move (kp (sm 9 rfl) hs q66))
       · intro ax tx hs okx sm d0 d1
         have e0 : At (Ty.lst Ty.int r) tx ax (.tmp 36) := d0 rfl
         have e1 : At (Ty.nat k) tx ax (.tmp 37) := d1 rfl
         exact run_plain rfl (y_index1 Try.underlying34 Try.inf3 e0 e1 (by omega) (lst_get Ty.int r 0 k (by omega)))
       · intro ax tx hs okx sm d0
         have e2 : At (Ty.ref [(Ty.int (r.getD k 0))]) tx ax (.tmp 38) := d0 rfl
         exact run_plain rfl (y_load Try.underlying3 rfl e2 rfl)
       · intro ax tx hs okx sm
         exact run_plain rfl (y_move (kp (sm 0 rfl) hs q70))
       · intro ax tx hs okx sm
         exact run_plain rfl (y_move (kp (sm 8 rfl) hs q68))
       · intro ax tx hs okx sm d0 d1
         have e4 : At (Ty.lst Ty.int r) tx ax (.tmp 40) := d0 rfl
         have e5 : At (Ty.nat i) tx ax (.tmp 41) := d1 rfl
         exact run_plain rfl (y_index1 Try.underlying34 Try.inf3 e4 e5 (by omega) (lst_get Ty.int r 0 i (by omega)))
       · intro ax tx hs okx sm d0
         have e6 : At (Ty.ref [(Ty.int (r.getD i 0))]) tx ax (.tmp 42) := d0 rfl
         exact run_plain rfl (y_load Try.underlying3 rfl e6 rfl)
       · intro ax tx hs okx sm d0 d1
         have e3 : At (Ty.int (r.getD k 0)) tx ax (.tmp 39) := d0 rfl
         have e7 : At (Ty.int (r.getD i 0)) tx ax (.tmp 43) := d1 rfl
         exact run_plain rfl (y_gtr e3 e7)
       intro a21 s15 D13
       have ok18 := D13.ok
       have F19 := F18.step0 D13.stp
       have q72 : At (Ty.nat k) s15 a21 (.tmp 9) := D13.kt q66 rfl
       have q73 : At (Ty.nat (wrN r i + ((r.take k).countP fun x => decide (r.getD i 0 < x)))) s15 a21 (.tmp 7) := D13.kt q67 rfl
       have q74 : At (Ty.nat i) s15 a21 (.tmp 8) := D13.kt q68 rfl
       have q75 : At (Ty.nat m) s15 a21 (.tmp 4) := D13.kt q69 rfl
       have q76 : At (Ty.lst Ty.int r) s15 a21 (.tmp 0) := D13.kt q70 rfl
       have q77 : At (Ty.bool (decide ((r.getD i 0) < (r.getD k 0)))) s15 a21 (.tmp 44) := D13.done 8
       clear D13
       refine tn ?_
       refine cond_p (p := ((r.getD i 0) < (r.getD k 0))) q77 (fun c4 => ?_) (fun c4 => ?_)
       ·
        refine reg (a := a21) (σ := s15) rfl (fun i_ => List.getD [(Ty.pr (Ty.nat (wrN r i + ((r.take k).countP fun x => decide (r.getD i 0 < x))))), (Ty.pr (Ty.nat ((wrN r i + ((r.take k).countP fun x => decide (r.getD i 0 < x))) + 1))), (Ty.pr (Ty.nat ((wrN r i + ((r.take k).countP fun x => decide (r.getD i 0 < x))) + 1)))] i_ Pr.any) ok18 rfl ⟨?_, ?_, ?_, trivial⟩ ?_
        · intro ax tx hs okx sm
          exact run_plain rfl (y_move (kp (sm 7 rfl) hs q73))
        · intro ax tx hs okx sm d0
          have e0 : At (Ty.nat (wrN r i + ((r.take k).countP fun x => decide (r.getD i 0 < x)))) tx ax (.tmp 45) := d0 rfl
          exact run_plain rfl ((y_add e0 rfl (w64 (by omega) (by omega))).mono (fun τ _ h => cvi (σ := τ) (by first | omega | exact (Int.natCast_mul _ _).symm) h))
        · intro ax tx hs okx sm d0 d1 d2
          have e1 : At (Ty.nat ((wrN r i + ((r.take k).countP fun x => decide (r.getD i 0 < x))) + 1)) tx ax (.tmp 46) := d0 rfl
          have e0 : At (Ty.nat (wrN r i + ((r.take k).countP fun x => decide (r.getD i 0 < x)))) tx ax (.tmp 45) := d1 rfl
          exact run_plain rfl (y_assign e1)
        intro a22 s16 D14
        have ok19 := D14.ok
        have F20 := F19.step0 D14.stp
        have q78 : At (Ty.nat k) s16 a22 (.tmp 9) := D14.kt q72 rfl
        have q79 : At (Ty.nat i) s16 a22 (.tmp 8) := D14.kt q74 rfl
        have q80 : At (Ty.nat m) s16 a22 (.tmp 4) := D14.kt q75 rfl
        have q81 : At (Ty.lst Ty.int r) s16 a22 (.tmp 0) := D14.kt q76 rfl
        have q82 : At (Ty.nat ((wrN r i + ((r.take k).countP fun x => decide (r.getD i 0 < x))) + 1)) s16 a22 (.tmp 7) := D14.done 2
        clear D14
        refine bn ?_
        refine tn ?_
        refine reg (a := a22) (σ := s16) rfl (fun i_ => List.getD [(Ty.pr (Ty.nat k)), (Ty.pr (Ty.nat (k + 1))), (Ty.pr (Ty.nat (k + 1)))] i_ Pr.any) ok19 rfl ⟨?_, ?_, ?_, trivial⟩ ?_
        · intro ax tx hs okx sm
          exact run_plain rfl (y_move (kp (sm 9 rfl) hs q78))
        · intro ax tx hs okx sm d0
          have e0 : At (Ty.nat k) tx ax (.tmp 34) := d0 rfl
          exact run_plain rfl ((y_add e0 rfl (w64 (by omega) (by omega))).mono (fun τ _ h => cvi (σ := τ) (by first | omega | exact (Int.natCast_mul _ _).symm) h))
        · intro ax tx hs okx sm d0 d1 d2
          have e1 : At (Ty.nat (k + 1)) tx ax (.tmp 35) := d0 rfl
          have e0 : At (Ty.nat k) tx ax (.tmp 34) := d1 rfl
          exact run_plain rfl (y_assign e1)
        intro a23 s17 D15
        have ok20 := D15.ok
        have F21 := F20.step0 D15.stp
        have q83 : At (Ty.nat i) s17 a23 (.tmp 8) := D15.kt q79 rfl
        have q84 : At (Ty.nat m) s17 a23 (.tmp 4) := D15.kt q80 rfl
        have q85 : At (Ty.lst Ty.int r) s17 a23 (.tmp 0) := D15.kt q81 rfl
        have q86 : At (Ty.nat ((wrN r i + ((r.take k).countP fun x => decide (r.getD i 0 < x))) + 1)) s17 a23 (.tmp 7) := D15.kt q82 rfl
        have q87 : At (Ty.nat (k + 1)) s17 a23 (.tmp 9) := D15.done 2
        clear D15
        exact tn ⟨i - ((k+1)), by omega, s17, (k+1), rfl, F21, ok20, (cvi (by (first | rfl | omega | (simp_all; done) | (simp_all; omega))) q87), (cvi (by (rw [take_snoc r 0 k (by omega), List.countP_append]; simp only [List.countP_cons, List.countP_nil, decide_eq_true (show r.getD i 0 < r.getD k 0 by assumption), if_true]; omega)) q86), q83, q84, q85, by omega, rfl⟩
       ·
        refine wp_skip ?_
        refine bn ?_
        refine tn ?_
        refine reg (a := a21) (σ := s15) rfl (fun i_ => List.getD [(Ty.pr (Ty.nat k)), (Ty.pr (Ty.nat (k + 1))), (Ty.pr (Ty.nat (k + 1)))] i_ Pr.any) ok18 rfl ⟨?_, ?_, ?_, trivial⟩ ?_
        · intro ax tx hs okx sm
          exact run_plain rfl (y_move (kp (sm 9 rfl) hs q72))
        · intro ax tx hs okx sm d0
          have e0 : At (Ty.nat k) tx ax (.tmp 34) := d0 rfl
          exact run_plain rfl ((y_add e0 rfl (w64 (by omega) (by omega))).mono (fun τ _ h => cvi (σ := τ) (by first | omega | exact (Int.natCast_mul _ _).symm) h))
        · intro ax tx hs okx sm d0 d1 d2
          have e1 : At (Ty.nat (k + 1)) tx ax (.tmp 35) := d0 rfl
          have e0 : At (Ty.nat k) tx ax (.tmp 34) := d1 rfl
          exact run_plain rfl (y_assign e1)
        intro a24 s18 D16
        have ok21 := D16.ok
        have F22 := F19.step0 D16.stp
        have q88 : At (Ty.nat (wrN r i + ((r.take k).countP fun x => decide (r.getD i 0 < x)))) s18 a24 (.tmp 7) := D16.kt q73 rfl
        have q89 : At (Ty.nat i) s18 a24 (.tmp 8) := D16.kt q74 rfl
        have q90 : At (Ty.nat m) s18 a24 (.tmp 4) := D16.kt q75 rfl
        have q91 : At (Ty.lst Ty.int r) s18 a24 (.tmp 0) := D16.kt q76 rfl
        have q92 : At (Ty.nat (k + 1)) s18 a24 (.tmp 9) := D16.done 2
        clear D16
        exact tn ⟨i - ((k+1)), by omega, s18, (k+1), rfl, F22, ok21, (cvi (by (first | rfl | omega | (simp_all; done) | (simp_all; omega))) q92), (cvi (by (rw [take_snoc r 0 k (by omega), List.countP_append]; simp only [List.countP_cons, List.countP_nil, decide_eq_false (show ¬ r.getD i 0 < r.getD k 0 by assumption)]; rfl)) q88), q89, q90, q91, by omega, rfl⟩
      ·
       refine wp_exit ?_
       refine tx ?_
       refine tx ?_
       refine bx ?_
       refine bn ?_
       refine tn ?_
       refine reg (a := a20) (σ := s14) rfl (fun i_ => List.getD [(Ty.pr (Ty.nat i)), (Ty.pr (Ty.nat (i + 1))), (Ty.pr (Ty.nat (i + 1)))] i_ Pr.any) ok17 rfl ⟨?_, ?_, ?_, trivial⟩ ?_
       · intro ax tx hs okx sm
         exact run_plain rfl (y_move (kp (sm 8 rfl) hs q68))
       · intro ax tx hs okx sm d0
         have e0 : At (Ty.nat i) tx ax (.tmp 29) := d0 rfl
         exact run_plain rfl ((y_add e0 rfl (w64 (by omega) (by omega))).mono (fun τ _ h => cvi (σ := τ) (by first | omega | exact (Int.natCast_mul _ _).symm) h))
       · intro ax tx hs okx sm d0 d1 d2
         have e1 : At (Ty.nat (i + 1)) tx ax (.tmp 30) := d0 rfl
         have e0 : At (Ty.nat i) tx ax (.tmp 29) := d1 rfl
         exact run_plain rfl (y_assign e1)
       intro a25 s19 D17
       have ok22 := D17.ok
       have F23 := F18.step0 D17.stp
       have q93 : At (Ty.nat (wrN r i + ((r.take k).countP fun x => decide (r.getD i 0 < x)))) s19 a25 (.tmp 7) := D17.kt q67 rfl
       have q94 : At (Ty.nat m) s19 a25 (.tmp 4) := D17.kt q69 rfl
       have q95 : At (Ty.lst Ty.int r) s19 a25 (.tmp 0) := D17.kt q70 rfl
       have q96 : At (Ty.nat (i + 1)) s19 a25 (.tmp 8) := D17.done 2
       clear D17
       obtain rfl : i = k := (by omega)
       exact tn ⟨r.length - ((i+1)), by omega, s19, (i+1), rfl, F23, ok22, (cvi (by (first | rfl | omega | (simp_all; done) | (simp_all; omega))) q96), (cvi (by (rfl)) q93), q94, q95, by omega, rfl⟩
    ·
     refine wp_exit ?_
     refine tx ?_
     refine tx ?_
     refine bx ?_
     refine tn ?_
     refine wp_seq ?_
     refine reg (a := a16) (σ := s12) rfl (fun i_ => List.getD [(Ty.pr (Ty.nat m)), (Ty.pr (Ty.nat (wrN r i))), (Ty.pr (Ty.nat ((wrN r i) % 2))), (Ty.pr (Ty.bool (decide (((((wrN r i) % 2) : Nat) : Int) = (1 : Int))))), (Ty.pr (Ty.nat m)), (Ty.pr (Ty.bool (decide (((((wrN r i) % 2) : Nat) : Int) = (1 : Int)))))] i_ Pr.any) ok14 rfl ⟨?_, ?_, ?_, ?_, ?_, ?_, trivial⟩ ?_
     · intro ax tx hs okx sm
       exact run_plain rfl (y_move (kp (sm 4 rfl) hs q53))
     · intro ax tx hs okx sm d0
       exact run_plain rfl (y_move (kp (sm 7 rfl) hs q52))
     · intro ax tx hs okx sm d0 d1
       have e1 : At (Ty.nat (wrN r i)) tx ax (.tmp 48) := d0 rfl
       exact run_plain rfl (y_remN e1 (toN (σ := tx) rfl (by omega)) (by omega))
     · intro ax tx hs okx sm d0 d1
       have e2 : At (Ty.nat ((wrN r i) % 2)) tx ax (.tmp 49) := d0 rfl
       exact run_plain rfl (y_eql e2 rfl)
     · intro ax tx hs okx sm d0 d1 d2 d3 d4
       have e0 : At (Ty.nat m) tx ax (.tmp 47) := d0 rfl
       exact run_plain rfl (y_assign e0)
     · intro ax tx hs okx sm d0 d1 d2 d3 d4 d5 d6
       have e3 : At (Ty.bool (decide (((((wrN r i) % 2) : Nat) : Int) = (1 : Int)))) tx ax (.tmp 50) := d0 rfl
       have e4 : At (Ty.nat m) tx ax (.tmp 2) := d1 rfl
       have e0 : At (Ty.nat m) tx ax (.tmp 47) := d2 rfl
       have e1 : At (Ty.nat (wrN r i)) tx ax (.tmp 48) := d3 rfl
       have e2 : At (Ty.nat ((wrN r i) % 2)) tx ax (.tmp 49) := d4 rfl
       exact run_plain rfl (y_assign e3)
     intro a26 s20 D18
     have ok23 := D18.ok
     have F24 := F15.step0 D18.stp
     have q97 : At (Ty.nat m) s20 a26 (.tmp 2) := D18.done 4
     have q98 : At (Ty.bool (decide (((((wrN r i) % 2) : Nat) : Int) = (1 : Int)))) s20 a26 (.tmp 3) := D18.done 5
     clear D18
     refine tn ?_
     refine wp_ret ?_
     exact retL2 rfl ok23 F24 (hasT2 (cvi (by (rw [hmo])) q97) (cvb (by (obtain rfl : i = r.length := (by omega); rw [oddL_inv hr, ← List.take_length (l := r), ← wrN_inv r r.length (Nat.le_refl _), List.take_length, decide_eq_decide]; omega)) q98))


set_option maxRecDepth 100000 in
theorem rFact_fn : ∀ (m : Nat) (n : Nat) (σ : GW)  (v0 : Value) (hv0 : Ty.has (Ty.nat n) σ v0)  (hm : m = n) (hn : n ≤ 12), FnC Try.prog 35 #[v0] σ (Ty.nat (fct n)) := by
 intro m
 induction m using Nat.strongRecOn with
 | _ m ih =>
 intro n σ v0 hv0 hm hn
 refine fn_intro0 Try.func35 rfl Try.ntmps35 (Nat.le_of_ble_eq_true rfl) (fun s0 a0 hle F0 ok0 hargs => ?_)
 have p0 : At (Ty.nat n) s0 a0 (.tmp 0) := by have e := hargs 0 _ rfl; show Ty.has _ _ _; rw [e]; exact Ty.up _ hle hv0
 clear hargs
 refine wp_seq ?_
 refine reg (a := a0) (σ := s0) rfl (fun i_ => List.getD [(Ty.pr (Ty.int (0 : Int)))] i_ Pr.any) ok0 rfl ⟨?_, trivial⟩ ?_
 · intro ax tx hs okx sm
   exact run_plain rfl (y_assign rfl)
 intro a1 s1 D1
 have ok1 := D1.ok
 have F1 := F0.step0 D1.stp
 have q1 : At (Ty.nat n) s1 a1 (.tmp 0) := D1.kt p0 rfl
 clear D1
 refine tn ?_
 refine wp_seq ?_
 refine wp_seq ?_
 refine reg (a := a1) (σ := s1) rfl (fun i_ => List.getD [(Ty.pr (Ty.nat n)), (Ty.pr (Ty.bool (decide (((n : Nat) : Int) < (2 : Int)))))] i_ Pr.any) ok1 rfl ⟨?_, ?_, trivial⟩ ?_
 · intro ax tx hs okx sm
   exact run_plain rfl (y_move (kp (sm 0 rfl) hs q1))
 · intro ax tx hs okx sm d0
   have e0 : At (Ty.nat n) tx ax (.tmp 3) := d0 rfl
   exact run_plain rfl (y_lss e0 rfl)
 intro a2 s2 D2
 have ok2 := D2.ok
 have F2 := F1.step0 D2.stp
 have q2 : At (Ty.nat n) s2 a2 (.tmp 0) := D2.kt q1 rfl
 have q3 : At (Ty.bool (decide (((n : Nat) : Int) < (2 : Int)))) s2 a2 (.tmp 4) := D2.done 1
 clear D2
 refine tn ?_
 refine cond_p (p := (((n : Nat) : Int) < (2 : Int))) q3 (fun c1 => ?_) (fun c1 => ?_)
 ·
  refine wp_seq ?_
  refine reg (a := a2) (σ := s2) rfl (fun i_ => List.getD [(Ty.pr (Ty.int (1 : Int)))] i_ Pr.any) ok2 rfl ⟨?_, trivial⟩ ?_
  · intro ax tx hs okx sm
    exact run_plain rfl (y_assign rfl)
  intro a3 s3 D3
  have ok3 := D3.ok
  have F3 := F2.step0 D3.stp
  have q4 : At (Ty.int (1 : Int)) s3 a3 (.tmp 2) := D3.done 0
  clear D3
  refine tn ?_
  refine wp_ret ?_
  refine tr ?_
  exact retL1 rfl ok3 F3 (cvi (by (rw [fct_small (by omega)]; rfl)) q4)
 ·
  have hm2 : ((n : Nat) : Int) * ((fct (n - 1) : Nat) : Int) ≤ 479001600 ∧ 0 ≤ ((n : Nat) : Int) * ((fct (n - 1) : Nat) : Int) := (by have h1 := fct_le12 hn; have h2 := fct_rec (n := n) (by omega); rw [← Int.natCast_mul]; omega)
  refine wp_skip ?_
  refine tn ?_
  refine wp_seq ?_
  refine reg (a := a2) (σ := s2) rfl (fun i_ => List.getD [(Ty.pr (Ty.nat n)), (Ty.pr (Ty.nat n)), (Ty.pr (Ty.nat (n - 1))), (Ty.pr (Ty.nat (fct ((n - 1))))), (Ty.pr (Ty.nat (n * (fct ((n - 1)))))), (Ty.pr (Ty.nat (n * (fct ((n - 1))))))] i_ Pr.any) ok2 rfl ⟨?_, ?_, ?_, ?_, ?_, ?_, trivial⟩ ?_
  · intro ax tx hs okx sm
    exact run_plain rfl (y_move (kp (sm 0 rfl) hs q2))
  · intro ax tx hs okx sm
    exact run_plain rfl (y_move (kp (sm 0 rfl) hs q2))
  · intro ax tx hs okx sm d0
    have e1 : At (Ty.nat n) tx ax (.tmp 6) := d0 rfl
    exact run_plain rfl ((y_sub e1 rfl (w64 (by omega) (by omega))).mono (fun τ _ h => cvi (σ := τ) (by omega) h))
  · intro ax tx hs okx sm d0
    have e2 : At (Ty.nat (n - 1)) tx ax (.tmp 7) := d0 rfl
    exact run_plain rfl (y_call #[ax.eval (.tmp 7)] Try.func35 rfl rfl (by simp only [List.map_toArray, List.map_cons, List.map_nil]) (ih (((n - 1))) (by omega) ((n - 1)) _ _ (cvi (σ := tx) (by omega) e2) (by omega) (by omega)))
  · intro ax tx hs okx sm d0 d1
    have e0 : At (Ty.nat n) tx ax (.tmp 5) := d0 rfl
    have e3 : At (Ty.nat (fct ((n - 1)))) tx ax (.tmp 8) := d1 rfl
    exact run_plain rfl ((y_mul e0 e3 (w64 (by omega) (by omega))).mono (fun τ _ h => cvi (σ := τ) (by first | omega | exact (Int.natCast_mul _ _).symm) h))
  · intro ax tx hs okx sm d0 d1 d2 d3 d4 d5 d6
    have e4 : At (Ty.nat (n * (fct ((n - 1))))) tx ax (.tmp 9) := d0 rfl
    have e3 : At (Ty.nat (fct ((n - 1)))) tx ax (.tmp 8) := d1 rfl
    have e0 : At (Ty.nat n) tx ax (.tmp 5) := d2 rfl
    have e1 : At (Ty.nat n) tx ax (.tmp 6) := d3 rfl
    have e2 : At (Ty.nat (n - 1)) tx ax (.tmp 7) := d4 rfl
    exact run_plain rfl (y_assign e4)
  intro a4 s4 D4
  have ok4 := D4.ok
  have F4 := F2.step0 D4.stp
  have q5 : At (Ty.nat (n * (fct ((n - 1))))) s4 a4 (.tmp 2) := D4.done 5
  clear D4
  refine tn ?_
  refine wp_ret ?_
  exact retL1 rfl ok4 F4 (cvi (by (rw [fct_rec (by omega)])) q5)


set_option maxRecDepth 100000 in
theorem rRank_fn (r : List Int) (σ : GW)  (v0 : Value) (hv0 : Ty.has (Ty.lst Ty.int r) σ v0)  (hr : IsRow r) :
    FnC Try.prog 47 #[v0] σ (Ty.nat (rankL r)) := by
 have hln := hr.le
 refine fn_intro0 Try.func47 rfl Try.ntmps47 (Nat.le_of_ble_eq_true rfl) (fun s0 a0 hle F0 ok0 hargs => ?_)
 have p0 : At (Ty.lst Ty.int r) s0 a0 (.tmp 0) := by have e := hargs 0 _ rfl; show Ty.has _ _ _; rw [e]; exact Ty.up _ hle hv0
 have b1 := sl_le p0
 clear hargs
 refine wp_seq ?_
 refine reg (a := a0) (σ := s0) rfl (fun i_ => List.getD [(Ty.pr (Ty.int (0 : Int)))] i_ Pr.any) ok0 rfl ⟨?_, trivial⟩ ?_
 · intro ax tx hs okx sm
   exact run_plain rfl (y_assign rfl)
 intro a1 s1 D1
 have ok1 := D1.ok
 have F1 := F0.step0 D1.stp
 have q1 : At (Ty.lst Ty.int r) s1 a1 (.tmp 0) := D1.kt p0 rfl
 clear D1
 refine tn ?_
 refine wp_seq ?_
 refine reg (a := a1) (σ := s1) rfl (fun i_ => List.getD [(Ty.pr (Ty.int (0 : Int)))] i_ Pr.any) ok1 rfl ⟨?_, trivial⟩ ?_
 · intro ax tx hs okx sm
   exact run_plain rfl (y_assign rfl)
 intro a2 s2 D2
 have ok2 := D2.ok
 have F2 := F1.step0 D2.stp
 have q2 : At (Ty.lst Ty.int r) s2 a2 (.tmp 0) := D2.kt q1 rfl
 have q3 : At (Ty.int (0 : Int)) s2 a2 (.tmp 3) := D2.done 0
 clear D2
 refine tn ?_
 refine wp_seq ?_
 refine wp_seq ?_
 refine reg (a := a2) (σ := s2) rfl (fun i_ => List.getD [(Ty.pr (Ty.int (0 : Int)))] i_ Pr.any) ok2 rfl ⟨?_, trivial⟩ ?_
 · intro ax tx hs okx sm
   exact run_plain rfl (y_assign rfl)
 intro a3 s3 D3
 have ok3 := D3.ok
 have F3 := F2.step0 D3.stp
 have q4 : At (Ty.lst Ty.int r) s3 a3 (.tmp 0) := D3.kt q2 rfl
 have q5 : At (Ty.int (0 : Int)) s3 a3 (.tmp 3) := D3.kt q3 rfl
 have q6 : At (Ty.int (0 : Int)) s3 a3 (.tmp 4) := D3.done 0
 clear D3
 refine tn ?_
 refine wp_block ?_
 refine loop (fun n1 a4 w1 => ∃ (t1 : GW) (i : Nat) (q : Nat), t1.w = w1 ∧ FromL [] s0 t1 ∧ Ok 44 a4 ∧ At (Ty.nat i) t1 a4 (.tmp 4) ∧ At (Ty.nat q) t1 a4 (.tmp 3) ∧ At (Ty.lst Ty.int r) t1 a4 (.tmp 0) ∧ (i ≤ r.length) ∧ (q + rankL (r.drop i) = rankL r) ∧ n1 = r.length - i) (r.length - (0)) ?_ ?_
 ·
  exact ⟨s3, 0, 0, rfl, F3, ok3, (cvi (by (first | rfl | omega | (simp_all; done) | (simp_all; omega))) q6), (cvi (by (first | rfl | omega | (simp_all; done) | (simp_all; omega))) q5), q4, by omega, by simp, rfl⟩
 ·
  rintro n2 a5 w2 ⟨t2, i, q, rfl, F4, ok4, q7, q8, q9, hi, hq, rfl⟩
  have hrl := rank_le12 hln
  refine wp_seq ?_
  refine wp_seq ?_
  refine reg (a := a5) (σ := t2) rfl (fun i_ => List.getD [(Ty.pr (Ty.nat i)), (Ty.pr (Ty.lst Ty.int r)), (Ty.pr (Ty.nat (List.length r))), (Ty.pr (Ty.bool (decide (((i : Nat) : Int) < (((List.length r) : Nat) : Int)))))] i_ Pr.any) ok4 rfl ⟨?_, ?_, ?_, ?_, trivial⟩ ?_
  · intro ax tx hs okx sm
    exact run_plain rfl (y_move (kp (sm 4 rfl) hs q7))
  · intro ax tx hs okx sm
    exact run_plain rfl (y_move (kp (sm 0 rfl) hs q9))
  · intro ax tx hs okx sm d0
    have e1 : At (Ty.lst Ty.int r) tx ax (.tmp 8) := d0 rfl
    exact run_plain rfl (y_len Try.underlying34 e1)
  · intro ax tx hs okx sm d0 d1
    have e0 : At (Ty.nat i) tx ax (.tmp 7) := d0 rfl
    have e2 : At (Ty.nat (List.length r)) tx ax (.tmp 9) := d1 rfl
    exact run_plain rfl (y_lss e0 e2)
  intro a6 s4 D4
  have ok5 := D4.ok
  have F5 := F4.step0 D4.stp
  have q10 : At (Ty.nat i) s4 a6 (.tmp 4) := D4.kt q7 rfl
  have q11 : At (Ty.nat q) s4 a6 (.tmp 3) := D4.kt q8 rfl
  have q12 : At (Ty.lst Ty.int r) s4 a6 (.tmp 0) := D4.kt q9 rfl
  have q13 : At (Ty.bool (decide (((i : Nat) : Int) < (((List.length r) : Nat) : Int)))) s4 a6 (.tmp 10) := D4.done 3
  clear D4
  refine tn ?_
  refine cond_p (p := (((i : Nat) : Int) < (((List.length r) : Nat) : Int))) q13 (fun c1 => ?_) (fun c1 => ?_)
  ·
   have hmb := rank_mul hln (by omega) hq; have hbd := hr.at (i := i) (by omega)
   refine wp_skip ?_
   refine tn ?_
   refine wp_seq ?_
   refine wp_block ?_
   refine wp_seq ?_
   refine reg (a := a6) (σ := s4) rfl (fun i_ => List.getD [(Ty.pr (Ty.lst Ty.int r)), (Ty.pr (Ty.nat i)), (Ty.pr (Ty.ref [(Ty.int (r.getD i 0))])), (Ty.pr (Ty.int (r.getD i 0))), (Ty.pr (Ty.int (r.getD i 0)))] i_ Pr.any) ok5 rfl ⟨?_, ?_, ?_, ?_, ?_, trivial⟩ ?_
   · intro ax tx hs okx sm
     exact run_plain rfl (y_move (kp (sm 0 rfl) hs q12))
   · intro ax tx hs okx sm
     exact run_plain rfl (y_move (kp (sm 4 rfl) hs q10))
   · intro ax tx hs okx sm d0 d1
     have e0 : At (Ty.lst Ty.int r) tx ax (.tmp 13) := d0 rfl
     have e1 : At (Ty.nat i) tx ax (.tmp 14) := d1 rfl
     exact run_plain rfl (y_index1 Try.underlying34 Try.inf3 e0 e1 (by omega) (lst_get Ty.int r 0 i (by omega)))
   · intro ax tx hs okx sm d0
     have e2 : At (Ty.ref [(Ty.int (r.getD i 0))]) tx ax (.tmp 15) := d0 rfl
     exact run_plain rfl (y_load Try.underlying3 rfl e2 rfl)
   · intro ax tx hs okx sm d0 d1 d2 d3 d4
     have e3 : At (Ty.int (r.getD i 0)) tx ax (.tmp 16) := d0 rfl
     have e0 : At (Ty.lst Ty.int r) tx ax (.tmp 13) := d1 rfl
     have e1 : At (Ty.nat i) tx ax (.tmp 14) := d2 rfl
     have e2 : At (Ty.ref [(Ty.int (r.getD i 0))]) tx ax (.tmp 15) := d3 rfl
     exact run_plain rfl (y_assign e3)
   intro a7 s5 D5
   have ok6 := D5.ok
   have F6 := F5.step0 D5.stp
   have q14 : At (Ty.nat i) s5 a7 (.tmp 4) := D5.kt q10 rfl
   have q15 : At (Ty.nat q) s5 a7 (.tmp 3) := D5.kt q11 rfl
   have q16 : At (Ty.lst Ty.int r) s5 a7 (.tmp 0) := D5.kt q12 rfl
   have q17 : At (Ty.int (r.getD i 0)) s5 a7 (.tmp 5) := D5.done 4
   clear D5
   refine tn ?_
   refine wp_seq ?_
   refine wp_seq ?_
   refine reg (a := a7) (σ := s5) rfl (fun i_ => List.getD [(Ty.pr (Ty.int (0 : Int)))] i_ Pr.any) ok6 rfl ⟨?_, trivial⟩ ?_
   · intro ax tx hs okx sm
     exact run_plain rfl (y_assign rfl)
   intro a8 s6 D6
   have ok7 := D6.ok
   have F7 := F6.step0 D6.stp
   have q18 : At (Ty.nat i) s6 a8 (.tmp 4) := D6.kt q14 rfl
   have q19 : At (Ty.nat q) s6 a8 (.tmp 3) := D6.kt q15 rfl
   have q20 : At (Ty.lst Ty.int r) s6 a8 (.tmp 0) := D6.kt q16 rfl
   have q21 : At (Ty.int (r.getD i 0)) s6 a8 (.tmp 5) := D6.kt q17 rfl
   have q22 : At (Ty.int (0 : Int)) s6 a8 (.tmp 6) := D6.done 0
   clear D6
   refine tn ?_
   refine wp_block ?_
   refine loop (fun n3 a9 w3 => ∃ (t3 : GW) (j : Nat), t3.w = w3 ∧ FromL [] s0 t3 ∧ Ok 44 a9 ∧ At (Ty.nat j) t3 a9 (.tmp 6) ∧ At (Ty.int (r.getD i 0 - ((lessN (r.getD i 0) (r.take j) : Nat) : Int))) t3 a9 (.tmp 5) ∧ At (Ty.nat i) t3 a9 (.tmp 4) ∧ At (Ty.nat q) t3 a9 (.tmp 3) ∧ At (Ty.lst Ty.int r) t3 a9 (.tmp 0) ∧ (j ≤ i) ∧ n3 = i - j) (i - (0)) ?_ ?_
   ·
    exact ⟨s6, 0, rfl, F7, ok7, (cvi (by (first | rfl | omega | (simp_all; done) | (simp_all; omega))) q22), (cvi (by (simp [lessN])) q21), q18, q19, q20, by omega, rfl⟩
   ·
    rintro n4 a10 w4 ⟨t4, j, rfl, F8, ok8, q23, q24, q25, q26, q27, hj, rfl⟩
    have hll := lessN_le (r.getD i 0) (r.take j)
    have htl := List.length_take_le j r
    refine wp_seq ?_
    refine wp_seq ?_
    refine reg (a := a10) (σ := t4) rfl (fun i_ => List.getD [(Ty.pr (Ty.nat j)), (Ty.pr (Ty.nat i)), (Ty.pr (Ty.bool (decide (((j : Nat) : Int) < ((i : Nat) : Int)))))] i_ Pr.any) ok8 rfl ⟨?_, ?_, ?_, trivial⟩ ?_
    · intro ax tx hs okx sm
      exact run_plain rfl (y_move (kp (sm 6 rfl) hs q23))
    · intro ax tx hs okx sm
      exact run_plain rfl (y_move (kp (sm 4 rfl) hs q25))
    · intro ax tx hs okx sm d0 d1
      have e0 : At (Ty.nat j) tx ax (.tmp 17) := d0 rfl
      have e1 : At (Ty.nat i) tx ax (.tmp 18) := d1 rfl
      exact run_plain rfl (y_lss e0 e1)
    intro a11 s7 D7
    have ok9 := D7.ok
    have F9 := F8.step0 D7.stp
    have q28 : At (Ty.nat j) s7 a11 (.tmp 6) := D7.kt q23 rfl
    have q29 : At (Ty.int (r.getD i 0 - ((lessN (r.getD i 0) (r.take j) : Nat) : Int))) s7 a11 (.tmp 5) := D7.kt q24 rfl
    have q30 : At (Ty.nat i) s7 a11 (.tmp 4) := D7.kt q25 rfl
    have q31 : At (Ty.nat q) s7 a11 (.tmp 3) := D7.kt q26 rfl
    have q32 : At (Ty.lst Ty.int r) s7 a11 (.tmp 0) := D7.kt q27 rfl
    have q33 : At (Ty.bool (decide (((j : Nat) : Int) < ((i : Nat) : Int)))) s7 a11 (.tmp 19) := D7.done 2
    clear D7
    refine tn ?_
    refine cond_p (p := (((j : Nat) : Int) < ((i : Nat) : Int))) q33 (fun c2 => ?_) (fun c2 => ?_)
    ·
     refine wp_skip ?_
     refine tn ?_
     refine wp_seq ?_
     refine wp_block ?_
     refine wp_seq ?_
     refine reg (a := a11) (σ := s7) rfl (fun i_ => List.getD [(Ty.pr (Ty.lst Ty.int r)), (Ty.pr (Ty.nat j)), (Ty.pr (Ty.ref [(Ty.int (r.getD j 0))])), (Ty.pr (Ty.int (r.getD j 0))), (Ty.pr (Ty.lst Ty.int r)), (Ty.pr (Ty.nat i)), (Ty.pr (Ty.ref [(Ty.int (r.getD i 0))])), (Ty.pr (Ty.int (r.getD i 0))), (Ty.pr (Ty.bool (decide ((r.getD j 0) < (r.getD i 0)))))] i_ Pr.any) ok9 rfl ⟨?_, ?_, ?_, ?_, ?_, ?_, ?_, ?_, ?_, trivial⟩ ?_
     · intro ax tx hs okx sm
       exact run_plain rfl (y_move (kp (sm 0 rfl) hs q32))
     · intro ax tx hs okx sm
       exact run_plain rfl (y_move (kp (sm 6 rfl) hs q28))
     · intro ax tx hs okx sm d0 d1
       have e0 : At (Ty.lst Ty.int r) tx ax (.tmp 22) := d0 rfl
       have e1 : At (Ty.nat j) tx ax (.tmp 23) := d1 rfl
       exact run_plain rfl (y_index1 Try.underlying34 Try.inf3 e0 e1 (by omega) (lst_get Ty.int r 0 j (by omega)))
     · intro ax tx hs okx sm d0
       have e2 : At (Ty.ref [(Ty.int (r.getD j 0))]) tx ax (.tmp 24) := d0 rfl
       exact run_plain rfl (y_load Try.underlying3 rfl e2 rfl)
     · intro ax tx hs okx sm
       exact run_plain rfl (y_move (kp (sm 0 rfl) hs q32))
     · intro ax tx hs okx sm
       exact run_plain rfl (y_move (kp (sm 4 rfl) hs q30))
     · intro ax tx hs okx sm d0 d1
       have e4 : At (Ty.lst Ty.int r) tx ax (.tmp 26) := d0 rfl
       have e5 : At (Ty.nat i) tx ax (.tmp 27) := d1 rfl
       exact run_plain rfl (y_index1 Try.underlying34 Try.inf3 e4 e5 (by omega) (lst_get Ty.int r 0 i (by omega)))
     · intro ax tx hs okx sm d0
       have e6 : At (Ty.ref [(Ty.int (r.getD i 0))]) tx ax (.tmp 28) := d0 rfl
       exact run_plain rfl (y_load Try.underlying3 rfl e6 rfl)
     · intro ax tx hs okx sm d0 d1
       have e3 : At (Ty.int (r.getD j 0)) tx ax (.tmp 25) := d0 rfl
       have e7 : At (Ty.int (r.getD i 0)) tx ax (.tmp 29) := d1 rfl
       exact run_plain rfl (y_lss e3 e7)
     intro a12 s8 D8
     have ok10 := D8.ok
     have F10 := F9.step0 D8.stp
     have q34 : At (Ty.nat j) s8 a12 (.tmp 6) := D8.kt q28 rfl
     have q35 : At (Ty.int (r.getD i 0 - ((lessN (r.getD i 0) (r.take j) : Nat) : Int))) s8 a12 (.tmp 5) := D8.kt q29 rfl
     have q36 : At (Ty.nat i) s8 a12 (.tmp 4) := D8.kt q30 rfl
     have q37 : At (Ty.nat q) s8 a12 (.tmp 3) := D8.kt q31 rfl
     have q38 : At (Ty.lst Ty.int r) s8 a12 (.tmp 0) := D8.kt q32 rfl
     have q39 : At (Ty.bool (decide ((r.getD j 0) < (r.getD i 0)))) s8 a12 (.tmp 30) := D8.done 8
     clear D8
     refine tn ?_
     refine cond_p (p := ((r.getD j 0) < (r.getD i 0))) q39 (fun c3 => ?_) (fun c3 => ?_)
     ·
      refine reg (a := a12) (σ := s8) rfl (fun i_ => List.getD [(Ty.pr (Ty.int (r.getD i 0 - ((lessN (r.getD i 0) (r.take j) : Nat) : Int)))), (Ty.pr (Ty.int ((r.getD i 0 - ((lessN (r.getD i 0) (r.take j) : Nat) : Int)) - (1 : Int)))), (Ty.pr (Ty.int ((r.getD i 0 - ((lessN (r.getD i 0) (r.take j) : Nat) : Int)) - (1 : Int))))] i_ Pr.any) ok10 rfl ⟨?_, ?_, ?_, trivial⟩ ?_
      · intro ax tx hs okx sm
        exact run_plain rfl (y_move (kp (sm 5 rfl) hs q35))
      · intro ax tx hs okx sm d0
        have e0 : At (Ty.int (r.getD i 0 - ((lessN (r.getD i 0) (r.take j) : Nat) : Int))) tx ax (.tmp 31) := d0 rfl
        exact run_plain rfl (y_sub e0 rfl (w64 (by omega) (by omega)))
      · intro ax tx hs okx sm d0 d1 d2
        have e1 : At (Ty.int ((r.getD i 0 - ((lessN (r.getD i 0) (r.take j) : Nat) : Int)) - (1 : Int))) tx ax (.tmp 32) := d0 rfl
        have e0 : At (Ty.int (r.getD i 0 - ((lessN (r.getD i 0) (r.take j) : Nat) : Int))) tx ax (.tmp 31) := d1 rfl
        exact run_plain rfl (y_assign e1)
      intro a13 s9 D9
      have ok11 := D9.ok
      have F11 := F10.step0 D9.stp
      have q40 : At (Ty.nat j) s9 a13 (.tmp 6) := D9.kt q34 rfl
      have q41 : At (Ty.nat i) s9 a13 (.tmp 4) := D9.kt q36 rfl
      have q42 : At (Ty.nat q) s9 a13 (.tmp 3) := D9.kt q37 rfl
      have q43 : At (Ty.lst Ty.int r) s9 a13 (.tmp 0) := D9.kt q38 rfl
      have q44 : At (Ty.int ((r.getD i 0 - ((lessN (r.getD i 0) (r.take j) : Nat) : Int)) - (1 : Int))) s9 a13 (.tmp 5) := D9.done 2
      clear D9
      refine bn ?_
      refine tn ?_
      refine reg (a := a13) (σ := s9) rfl (fun i_ => List.getD [(Ty.pr (Ty.nat j)), (Ty.pr (Ty.nat (j + 1))), (Ty.pr (Ty.nat (j + 1)))] i_ Pr.any) ok11 rfl ⟨?_, ?_, ?_, trivial⟩ ?_
      · intro ax tx hs okx sm
        exact run_plain rfl (y_move (kp (sm 6 rfl) hs q40))
      · intro ax tx hs okx sm d0
        have e0 : At (Ty.nat j) tx ax (.tmp 20) := d0 rfl
        exact run_plain rfl ((y_add e0 rfl (w64 (by omega) (by omega))).mono (fun τ _ h => cvi (σ := τ) (by first | omega | exact (Int.natCast_mul _ _).symm) h))
      · intro ax tx hs okx sm d0 d1 d2
        have e1 : At (Ty.nat (j + 1)) tx ax (.tmp 21) := d0 rfl
        have e0 : At (Ty.nat j) tx ax (.tmp 20) := d1 rfl
        exact run_plain rfl (y_assign e1)
      intro a14 s10 D10
      have ok12 := D10.ok
      have F12 := F11.step0 D10.stp
      have q45 : At (Ty.nat i) s10 a14 (.tmp 4) := D10.kt q41 rfl
      have q46 : At (Ty.nat q) s10 a14 (.tmp 3) := D10.kt q42 rfl
      have q47 : At (Ty.lst Ty.int r) s10 a14 (.tmp 0) := D10.kt q43 rfl
      have q48 : At (Ty.int ((r.getD i 0 - ((lessN (r.getD i 0) (r.take j) : Nat) : Int)) - (1 : Int))) s10 a14 (.tmp 5) := D10.kt q44 rfl
      have q49 : At (Ty.nat (j + 1)) s10 a14 (.tmp 6) := D10.done 2
      clear D10
      exact tn ⟨i - ((j+1)), by omega, s10, (j+1), rfl, F12, ok12, (cvi (by (first | rfl | omega | (simp_all; done) | (simp_all; omega))) q49), (cvi (by (rw [lessN_snoc _ _ _ (by omega), if_pos (by assumption)]; omega)) q48), q45, q46, q47, by omega, rfl⟩
     ·
      refine wp_skip ?_
      refine bn ?_
      refine tn ?_
      refine reg (a := a12) (σ := s8) rfl (fun i_ => List.getD [(Ty.pr (Ty.nat j)), (Ty.pr (Ty.nat (j + 1))), (Ty.pr (Ty.nat (j + 1)))] i_ Pr.any) ok10 rfl ⟨?_, ?_, ?_, trivial⟩ ?_
      · intro ax tx hs okx sm
        exact run_plain rfl (y_move (kp (sm 6 rfl) hs q34))
      · intro ax tx hs okx sm d0
        have e0 : At (Ty.nat j) tx ax (.tmp 20) := d0 rfl
        exact run_plain rfl ((y_add e0 rfl (w64 (by omega) (by omega))).mono (fun τ _ h => cvi (σ := τ) (by first | omega | exact (Int.natCast_mul _ _).symm) h))
      · intro ax tx hs okx sm d0 d1 d2
        have e1 : At (Ty.nat (j + 1)) tx ax (.tmp 21) := d0 rfl
        have e0 : At (Ty.nat j) tx ax (.tmp 20) := d1 rfl
        exact run_plain rfl (y_assign e1)
      intro a15 s11 D11
      have ok13 := D11.ok
      have F13 := F10.step0 D11.stp
      have q50 : At (Ty.int (r.getD i 0 - ((lessN (r.getD i 0) (r.take j) : Nat) : Int))) s11 a15 (.tmp 5) := D11.kt q35 rfl
      have q51 : At (Ty.nat i) s11 a15 (.tmp 4) := D11.kt q36 rfl
      have q52 : At (Ty.nat q) s11 a15 (.tmp 3) := D11.kt q37 rfl
      have q53 : At (Ty.lst Ty.int r) s11 a15 (.tmp 0) := D11.kt q38 rfl
      have q54 : At (Ty.nat (j + 1)) s11 a15 (.tmp 6) := D11.done 2
      clear D11
      exact tn ⟨i - ((j+1)), by omega, s11, (j+1), rfl, F13, ok13, (cvi (by (first | rfl | omega | (simp_all; done) | (simp_all; omega))) q54), (cvi (by (rw [lessN_snoc _ _ _ (by omega), if_neg (by assumption)]; rfl)) q50), q51, q52, q53, by omega, rfl⟩
    ·
     have q55 : At (Ty.nat (lessN (r.getD i 0) (r.drop (i + 1)))) s7 a11 (.tmp 5) := cvt (T := (Ty.int (r.getD i 0 - ((lessN (r.getD i 0) (r.take j) : Nat) : Int)))) (U := (Ty.nat (lessN (r.getD i 0) (r.drop (i + 1))))) (by have e : j = i := (by omega); rw [e]; exact congrArg Ty.int (less_after hr (by omega))) q29
     refine wp_exit ?_
     refine tx ?_
     refine tx ?_
     refine bx ?_
     refine tn ?_
     refine reg (a := a11) (σ := s7) rfl (fun i_ => List.getD [(Ty.pr (Ty.nat q)), (Ty.pr (Ty.nat (lessN (r.getD i 0) (r.drop (i + 1))))), (Ty.pr (Ty.lst Ty.int r)), (Ty.pr (Ty.nat (List.length r))), (Ty.pr (Ty.nat ((List.length r) - 1))), (Ty.pr (Ty.nat i)), (Ty.pr (Ty.nat (((List.length r) - 1) - i))), (Ty.pr (Ty.nat (fct ((((List.length r) - 1) - i))))), (Ty.pr (Ty.nat ((lessN (r.getD i 0) (r.drop (i + 1))) * (fct ((((List.length r) - 1) - i)))))), (Ty.pr (Ty.nat (q + ((lessN (r.getD i 0) (r.drop (i + 1))) * (fct ((((List.length r) - 1) - i))))))), (Ty.pr (Ty.nat (q + ((lessN (r.getD i 0) (r.drop (i + 1))) * (fct ((((List.length r) - 1) - i)))))))] i_ Pr.any) ok9 rfl ⟨?_, ?_, ?_, ?_, ?_, ?_, ?_, ?_, ?_, ?_, ?_, trivial⟩ ?_
     · intro ax tx hs okx sm
       exact run_plain rfl (y_move (kp (sm 3 rfl) hs q31))
     · intro ax tx hs okx sm
       exact run_plain rfl (y_move (kp (sm 5 rfl) hs q55))
     · intro ax tx hs okx sm
       exact run_plain rfl (y_move (kp (sm 0 rfl) hs q32))
     · intro ax tx hs okx sm d0
       have e2 : At (Ty.lst Ty.int r) tx ax (.tmp 35) := d0 rfl
       exact run_plain rfl (y_len Try.underlying34 e2)
     · intro ax tx hs okx sm d0
       have e3 : At (Ty.nat (List.length r)) tx ax (.tmp 36) := d0 rfl
       exact run_plain rfl ((y_sub e3 rfl (w64 (by omega) (by omega))).mono (fun τ _ h => cvi (σ := τ) (by omega) h))
     · intro ax tx hs okx sm
       exact run_plain rfl (y_move (kp (sm 4 rfl) hs q30))
     · intro ax tx hs okx sm d0 d1
       have e4 : At (Ty.nat ((List.length r) - 1)) tx ax (.tmp 37) := d0 rfl
       have e5 : At (Ty.nat i) tx ax (.tmp 38) := d1 rfl
       exact run_plain rfl ((y_sub e4 e5 (w64 (by omega) (by omega))).mono (fun τ _ h => cvi (σ := τ) (by omega) h))
     · intro ax tx hs okx sm d0
       have e6 : At (Ty.nat (((List.length r) - 1) - i)) tx ax (.tmp 39) := d0 rfl
       exact run_plain rfl (y_call #[ax.eval (.tmp 39)] Try.func35 rfl rfl (by simp only [List.map_toArray, List.map_cons, List.map_nil]) (rFact_fn (((((List.length r) - 1) - i))) ((((List.length r) - 1) - i)) _ _ (cvi (σ := tx) (by omega) e6) (by omega) (by omega)))
     · intro ax tx hs okx sm d0 d1
       have e1 : At (Ty.nat (lessN (r.getD i 0) (r.drop (i + 1)))) tx ax (.tmp 34) := d0 rfl
       have e7 : At (Ty.nat (fct ((((List.length r) - 1) - i)))) tx ax (.tmp 40) := d1 rfl
       exact run_plain rfl ((y_mul e1 e7 (w64 (by omega) (by omega))).mono (fun τ _ h => cvi (σ := τ) (by first | omega | exact (Int.natCast_mul _ _).symm) h))
     · intro ax tx hs okx sm d0 d1
       have e0 : At (Ty.nat q) tx ax (.tmp 33) := d0 rfl
       have e8 : At (Ty.nat ((lessN (r.getD i 0) (r.drop (i + 1))) * (fct ((((List.length r) - 1) - i))))) tx ax (.tmp 41) := d1 rfl
       exact run_plain rfl ((y_add e0 e8 (w64 (by omega) (by omega))).mono (fun τ _ h => cvi (σ := τ) (by first | omega | exact (Int.natCast_mul _ _).symm) h))
     · intro ax tx hs okx sm d0 d1 d2 d3 d4 d5 d6 d7 d8 d9 d10 d11
       have e9 : At (Ty.nat (q + ((lessN (r.getD i 0) (r.drop (i + 1))) * (fct ((((List.length r) - 1) - i)))))) tx ax (.tmp 42) := d0 rfl
       have e7 : At (Ty.nat (fct ((((List.length r) - 1) - i)))) tx ax (.tmp 40) := d1 rfl
       have e0 : At (Ty.nat q) tx ax (.tmp 33) := d2 rfl
       have e1 : At (Ty.nat (lessN (r.getD i 0) (r.drop (i + 1)))) tx ax (.tmp 34) := d3 rfl
       have e2 : At (Ty.lst Ty.int r) tx ax (.tmp 35) := d4 rfl
       have e3 : At (Ty.nat (List.length r)) tx ax (.tmp 36) := d5 rfl
       have e4 : At (Ty.nat ((List.length r) - 1)) tx ax (.tmp 37) := d6 rfl
       have e5 : At (Ty.nat i) tx ax (.tmp 38) := d7 rfl
       have e6 : At (Ty.nat (((List.length r) - 1) - i)) tx ax (.tmp 39) := d8 rfl
       have e8 : At (Ty.nat ((lessN (r.getD i 0) (r.drop (i + 1))) * (fct ((((List.length r) - 1) - i))))) tx ax (.tmp 41) := d10 rfl
       exact run_plain rfl (y_assign e9)
     intro a16 s12 D12
     have ok14 := D12.ok
     have F14 := F9.step0 D12.stp
     have q56 : At (Ty.nat i) s12 a16 (.tmp 4) := D12.kt q30 rfl
     have q57 : At (Ty.lst Ty.int r) s12 a16 (.tmp 0) := D12.kt q32 rfl
     have q58 : At (Ty.nat (q + ((lessN (r.getD i 0) (r.drop (i + 1))) * (fct ((((List.length r) - 1) - i)))))) s12 a16 (.tmp 3) := D12.done 10
     clear D12
     refine bn ?_
     refine tn ?_
     refine reg (a := a16) (σ := s12) rfl (fun i_ => List.getD [(Ty.pr (Ty.nat i)), (Ty.pr (Ty.nat (i + 1))), (Ty.pr (Ty.nat (i + 1)))] i_ Pr.any) ok14 rfl ⟨?_, ?_, ?_, trivial⟩ ?_
     · intro ax tx hs okx sm
       exact run_plain rfl (y_move (kp (sm 4 rfl) hs q56))
     · intro ax tx hs okx sm d0
       have e0 : At (Ty.nat i) tx ax (.tmp 11) := d0 rfl
       exact run_plain rfl ((y_add e0 rfl (w64 (by omega) (by omega))).mono (fun τ _ h => cvi (σ := τ) (by first | omega | exact (Int.natCast_mul _ _).symm) h))
     · intro ax tx hs okx sm d0 d1 d2
       have e1 : At (Ty.nat (i + 1)) tx ax (.tmp 12) := d0 rfl
       have e0 : At (Ty.nat i) tx ax (.tmp 11) := d1 rfl
       exact run_plain rfl (y_assign e1)
     intro a17 s13 D13
     have ok15 := D13.ok
     have F15 := F14.step0 D13.stp
     have q59 : At (Ty.lst Ty.int r) s13 a17 (.tmp 0) := D13.kt q57 rfl
     have q60 : At (Ty.nat (q + ((lessN (r.getD i 0) (r.drop (i + 1))) * (fct ((((List.length r) - 1) - i)))))) s13 a17 (.tmp 3) := D13.kt q58 rfl
     have q61 : At (Ty.nat (i + 1)) s13 a17 (.tmp 4) := D13.done 2
     clear D13
     exact tn ⟨r.length - ((i+1)), by omega, s13, (i+1), (q + lessN (r.getD i 0) (r.drop (i + 1)) * fct (r.length - 1 - i)), rfl, F15, ok15, (cvi (by (first | rfl | omega | (simp_all; done) | (simp_all; omega))) q61), (cvi (by (first | rfl | omega | (simp_all; done) | (simp_all; omega))) q60), q59, by omega, rank_step' (by omega) hq, rfl⟩
  ·
   refine wp_exit ?_
   refine tx ?_
   refine tx ?_
   refine bx ?_
   refine tn ?_
   refine wp_seq ?_
   refine reg (a := a6) (σ := s4) rfl (fun i_ => List.getD [(Ty.pr (Ty.nat q)), (Ty.pr (Ty.nat q))] i_ Pr.any) ok5 rfl ⟨?_, ?_, trivial⟩ ?_
   · intro ax tx hs okx sm
     exact run_plain rfl (y_move (kp (sm 3 rfl) hs q11))
   · intro ax tx hs okx sm d0 d1
     have e0 : At (Ty.nat q) tx ax (.tmp 43) := d0 rfl
     exact run_plain rfl (y_assign e0)
   intro a18 s14 D14
   have ok16 := D14.ok
   have F16 := F5.step0 D14.stp
   have q62 : At (Ty.nat q) s14 a18 (.tmp 2) := D14.done 1
   clear D14
   refine tn ?_
   refine wp_ret ?_
   exact retL1 rfl ok16 F16 (cvi (by (obtain rfl : i = r.length := (by omega); exact congrArg _ (by rw [List.drop_length] at hq; exact hq))) q62)


set_option maxRecDepth 100000 in
theorem rHas_fn (l : List (List Int)) (r : List Int) (σ : GW)  (v0 v1 : Value) (hv0 : Ty.has (Ty.lst Ty.ints l) σ v0) (hv1 : Ty.has (Ty.lst Ty.int r) σ v1)   :
    FnC Try.prog 86 #[v0, v1] σ (Ty.bool (decide (r ∈ l))) := by
 refine fn_intro0 Try.func86 rfl Try.ntmps86 (Nat.le_of_ble_eq_true rfl) (fun s0 a0 hle F0 ok0 hargs => ?_)
 have p0 : At (Ty.lst Ty.ints l) s0 a0 (.tmp 0) := by have e := hargs 0 _ rfl; show Ty.has _ _ _; rw [e]; exact Ty.up _ hle hv0
 have b1 := sl_le p0
 have p1 : At (Ty.lst Ty.int r) s0 a0 (.tmp 1) := by have e := hargs 1 _ rfl; show Ty.has _ _ _; rw [e]; exact Ty.up _ hle hv1
 have b2 := sl_le p1
 clear hargs
 refine wp_seq ?_
 refine reg (a := a0) (σ := s0) rfl (fun i_ => List.getD [(Ty.pr (Ty.bool false))] i_ Pr.any) ok0 rfl ⟨?_, trivial⟩ ?_
 · intro ax tx hs okx sm
   exact run_plain rfl (y_assign rfl)
 intro a1 s1 D1
 have ok1 := D1.ok
 have F1 := F0.step0 D1.stp
 have q1 : At (Ty.lst Ty.ints l) s1 a1 (.tmp 0) := D1.kt p0 rfl
 have q2 : At (Ty.lst Ty.int r) s1 a1 (.tmp 1) := D1.kt p1 rfl
 clear D1
 refine tn ?_
 refine wp_seq ?_
 refine wp_seq ?_
 refine reg (a := a1) (σ := s1) rfl (fun i_ => List.getD [(Ty.pr (Ty.int (0 : Int)))] i_ Pr.any) ok1 rfl ⟨?_, trivial⟩ ?_
 · intro ax tx hs okx sm
   exact run_plain rfl (y_assign rfl)
 intro a2 s2 D2
 have ok2 := D2.ok
 have F2 := F1.step0 D2.stp
 have q3 : At (Ty.lst Ty.ints l) s2 a2 (.tmp 0) := D2.kt q1 rfl
 have q4 : At (Ty.lst Ty.int r) s2 a2 (.tmp 1) := D2.kt q2 rfl
 have q5 : At (Ty.int (0 : Int)) s2 a2 (.tmp 5) := D2.done 0
 clear D2
 refine tn ?_
 refine wp_block ?_
 refine loop (fun n1 a3 w1 => ∃ (t1 : GW) (k : Nat), t1.w = w1 ∧ FromL [] s0 t1 ∧ Ok 20 a3 ∧ At (Ty.nat k) t1 a3 (.tmp 5) ∧ At (Ty.lst Ty.ints l) t1 a3 (.tmp 0) ∧ At (Ty.lst Ty.int r) t1 a3 (.tmp 1) ∧ (k ≤ l.length) ∧ (∀ j, j < k → l.getD j [] ≠ r) ∧ n1 = l.length - k) (l.length - (0)) ?_ ?_
 ·
  exact ⟨s2, 0, rfl, F2, ok2, (cvi (by (first | rfl | omega | (simp_all; done) | (simp_all; omega))) q5), q3, q4, by omega, fun j hj => absurd hj (Nat.not_lt_zero j), rfl⟩
 ·
  rintro n2 a4 w2 ⟨t2, k, rfl, F3, ok3, q6, q7, q8, hk, hno, rfl⟩
  refine wp_seq ?_
  refine wp_seq ?_
  refine reg (a := a4) (σ := t2) rfl (fun i_ => List.getD [(Ty.pr (Ty.nat k)), (Ty.pr (Ty.lst Ty.ints l)), (Ty.pr (Ty.nat (List.length l))), (Ty.pr (Ty.bool (decide (((k : Nat) : Int) < (((List.length l) : Nat) : Int)))))] i_ Pr.any) ok3 rfl ⟨?_, ?_, ?_, ?_, trivial⟩ ?_
  · intro ax tx hs okx sm
    exact run_plain rfl (y_move (kp (sm 5 rfl) hs q6))
  · intro ax tx hs okx sm
    exact run_plain rfl (y_move (kp (sm 0 rfl) hs q7))
  · intro ax tx hs okx sm d0
    have e1 : At (Ty.lst Ty.ints l) tx ax (.tmp 8) := d0 rfl
    exact run_plain rfl (y_len Try.underlying33 e1)
  · intro ax tx hs okx sm d0 d1
    have e0 : At (Ty.nat k) tx ax (.tmp 7) := d0 rfl
    have e2 : At (Ty.nat (List.length l)) tx ax (.tmp 9) := d1 rfl
    exact run_plain rfl (y_lss e0 e2)
  intro a5 s3 D3
  have ok4 := D3.ok
  have F4 := F3.step0 D3.stp
  have q9 : At (Ty.nat k) s3 a5 (.tmp 5) := D3.kt q6 rfl
  have q10 : At (Ty.lst Ty.ints l) s3 a5 (.tmp 0) := D3.kt q7 rfl
  have q11 : At (Ty.lst Ty.int r) s3 a5 (.tmp 1) := D3.kt q8 rfl
  have q12 : At (Ty.bool (decide (((k : Nat) : Int) < (((List.length l) : Nat) : Int)))) s3 a5 (.tmp 10) := D3.done 3
  clear D3
  refine tn ?_
  refine cond_p (p := (((k : Nat) : Int) < (((List.length l) : Nat) : Int))) q12 (fun c1 => ?_) (fun c1 => ?_)
  ·
   refine wp_skip ?_
   refine tn ?_
   refine wp_seq ?_
   refine wp_block ?_
   refine wp_seq ?_
   refine reg (a := a5) (σ := s3) rfl (fun i_ => List.getD [(Ty.pr (Ty.lst Ty.ints l)), (Ty.pr (Ty.nat k)), (Ty.pr (Ty.ref [(Ty.lst Ty.int (l.getD k []))])), (Ty.pr (Ty.lst Ty.int (l.getD k []))), (Ty.pr (Ty.lst Ty.int r)), (Ty.pr (Ty.bool (decide (((l.getD k [])) = (r))))), (Ty.pr (Ty.bool (decide (((l.getD k [])) = (r)))))] i_ Pr.any) ok4 rfl ⟨?_, ?_, ?_, ?_, ?_, ?_, ?_, trivial⟩ ?_
   · intro ax tx hs okx sm
     exact run_plain rfl (y_move (kp (sm 0 rfl) hs q10))
   · intro ax tx hs okx sm
     exact run_plain rfl (y_move (kp (sm 5 rfl) hs q9))
   · intro ax tx hs okx sm d0 d1
     have e0 : At (Ty.lst Ty.ints l) tx ax (.tmp 13) := d0 rfl
     have e1 : At (Ty.nat k) tx ax (.tmp 14) := d1 rfl
     exact run_plain rfl (y_index1 Try.underlying33 Try.inf34 e0 e1 (by omega) (lst_get Ty.ints l [] k (by omega)))
   · intro ax tx hs okx sm d0
     have e2 : At (Ty.ref [(Ty.lst Ty.int (l.getD k []))]) tx ax (.tmp 15) := d0 rfl
     exact run_plain rfl (y_load Try.underlying34 rfl e2 rfl)
   · intro ax tx hs okx sm
     exact run_plain rfl (y_move (kp (sm 1 rfl) hs q11))
   · intro ax tx hs okx sm d0 d1
     have e3 : At (Ty.lst Ty.int (l.getD k [])) tx ax (.tmp 16) := d0 rfl
     have e4 : At (Ty.lst Ty.int r) tx ax (.tmp 17) := d1 rfl
     exact run_plain rfl (y_call #[ax.eval (.tmp 16), ax.eval (.tmp 17)] Try.func25 rfl rfl (by simp only [List.map_toArray, List.map_cons, List.map_nil]) (rsame_fn ((l.getD k [])) (r) _ _ _ e3 e4 ))
   · intro ax tx hs okx sm d0 d1 d2 d3 d4 d5 d6 d7
     have e5 : At (Ty.bool (decide (((l.getD k [])) = (r)))) tx ax (.tmp 18) := d0 rfl
     have e0 : At (Ty.lst Ty.ints l) tx ax (.tmp 13) := d2 rfl
     have e1 : At (Ty.nat k) tx ax (.tmp 14) := d3 rfl
     have e2 : At (Ty.ref [(Ty.lst Ty.int (l.getD k []))]) tx ax (.tmp 15) := d4 rfl
     have e3 : At (Ty.lst Ty.int (l.getD k [])) tx ax (.tmp 16) := d5 rfl
     have e4 : At (Ty.lst Ty.int r) tx ax (.tmp 17) := d6 rfl
     exact run_plain rfl (y_assign e5)
   intro a6 s4 D4
   have ok5 := D4.ok
   have F5 := F4.step0 D4.stp
   have q13 : At (Ty.nat k) s4 a6 (.tmp 5) := D4.kt q9 rfl
   have q14 : At (Ty.lst Ty.ints l) s4 a6 (.tmp 0) := D4.kt q10 rfl
   have q15 : At (Ty.lst Ty.int r) s4 a6 (.tmp 1) := D4.kt q11 rfl
   have q16 : At (Ty.bool (decide (((l.getD k [])) = (r)))) s4 a6 (.tmp 6) := D4.done 6
   clear D4
   refine tn ?_
   refine wp_seq ?_
   refine reg (a := a6) (σ := s4) rfl (fun i_ => List.getD [(Ty.pr (Ty.bool (decide (((l.getD k [])) = (r)))))] i_ Pr.any) ok5 rfl ⟨?_, trivial⟩ ?_
   · intro ax tx hs okx sm
     exact run_plain rfl (y_move (kp (sm 6 rfl) hs q16))
   intro a7 s5 D5
   have ok6 := D5.ok
   have F6 := F5.step0 D5.stp
   have q17 : At (Ty.nat k) s5 a7 (.tmp 5) := D5.kt q13 rfl
   have q18 : At (Ty.lst Ty.ints l) s5 a7 (.tmp 0) := D5.kt q14 rfl
   have q19 : At (Ty.lst Ty.int r) s5 a7 (.tmp 1) := D5.kt q15 rfl
   have q20 : At (Ty.bool (decide (((l.getD k [])) = (r)))) s5 a7 (.tmp 19) := D5.done 0
   clear D5
   refine tn ?_
   refine cond_t q20 (fun c2 => ?_) (fun c2 => ?_)
   ·
    refine wp_seq ?_
    refine reg (a := a7) (σ := s5) rfl (fun i_ => List.getD [(Ty.pr (Ty.bool true))] i_ Pr.any) ok6 rfl ⟨?_, trivial⟩ ?_
    · intro ax tx hs okx sm
      exact run_plain rfl (y_assign rfl)
    intro a8 s6 D6
    have ok7 := D6.ok
    have F7 := F6.step0 D6.stp
    have q21 : At (Ty.bool true) s6 a8 (.tmp 4) := D6.done 0
    clear D6
    refine tn ?_
    refine wp_ret ?_
    refine br ?_
    refine tr ?_
    refine tr ?_
    refine br ?_
    refine tr ?_
    exact retL1 rfl ok7 F7 (cvb (by (exact (decide_eq_true (by have e := of_decide_eq_true c2; rw [← e, List.getD_eq_getElem?_getD, List.getElem?_eq_getElem (by omega)]; exact List.getElem_mem _)).symm)) q21)
   ·
    refine wp_skip ?_
    refine bn ?_
    refine tn ?_
    refine reg (a := a7) (σ := s5) rfl (fun i_ => List.getD [(Ty.pr (Ty.nat k)), (Ty.pr (Ty.int (((k : Nat) : Int) + (1 : Int)))), (Ty.pr (Ty.int (((k : Nat) : Int) + (1 : Int))))] i_ Pr.any) ok6 rfl ⟨?_, ?_, ?_, trivial⟩ ?_
    · intro ax tx hs okx sm
      exact run_plain rfl (y_move (kp (sm 5 rfl) hs q17))
    · intro ax tx hs okx sm d0
      have e0 : At (Ty.nat k) tx ax (.tmp 11) := d0 rfl
      exact run_plain rfl (y_add e0 rfl (w64 (by omega) (by omega)))
    · intro ax tx hs okx sm d0 d1 d2
      have e1 : At (Ty.int (((k : Nat) : Int) + (1 : Int))) tx ax (.tmp 12) := d0 rfl
      have e0 : At (Ty.nat k) tx ax (.tmp 11) := d1 rfl
      exact run_plain rfl (y_assign e1)
    intro a9 s7 D7
    have ok8 := D7.ok
    have F8 := F6.step0 D7.stp
    have q22 : At (Ty.lst Ty.ints l) s7 a9 (.tmp 0) := D7.kt q18 rfl
    have q23 : At (Ty.lst Ty.int r) s7 a9 (.tmp 1) := D7.kt q19 rfl
    have q24 : At (Ty.int (((k : Nat) : Int) + (1 : Int))) s7 a9 (.tmp 5) := D7.done 2
    clear D7
    exact tn ⟨l.length - ((k+1)), by omega, s7, (k+1), rfl, F8, ok8, (cvi (by (first | rfl | omega | (simp_all; done) | (simp_all; omega))) q24), q22, q23, by omega, fun j hj => by (by_cases e : j = k; subst e; exact of_decide_eq_false c2; exact hno j (by omega)), rfl⟩
  ·
   refine wp_exit ?_
   refine tx ?_
   refine tx ?_
   refine bx ?_
   refine tn ?_
   refine wp_seq ?_
   refine reg (a := a5) (σ := s3) rfl (fun i_ => List.getD [(Ty.pr (Ty.bool false))] i_ Pr.any) ok4 rfl ⟨?_, trivial⟩ ?_
   · intro ax tx hs okx sm
     exact run_plain rfl (y_assign rfl)
   intro a10 s8 D8
   have ok9 := D8.ok
   have F9 := F4.step0 D8.stp
   have q25 : At (Ty.bool false) s8 a10 (.tmp 4) := D8.done 0
   clear D8
   refine tn ?_
   refine wp_ret ?_
   exact retL1 rfl ok9 F9 (cvb (by (exact (decide_eq_false (fun hm => by obtain ⟨j, hj, e⟩ := List.getElem_of_mem hm; exact hno j (by omega) (by rw [List.getD_eq_getElem?_getD, List.getElem?_eq_getElem hj]; exact e))).symm)) q25)


set_option maxRecDepth 100000 in
theorem rCircuit_fn : ∀ (m : Nat) (n : Nat) (cs : List (List Int)) (rows : List (List Int)) (path : List Int) (r : List Int) (σ : GW)  (v0 v1 v2 v3 : Value) (hv0 : Ty.has (Ty.nat n) σ v0) (hv1 : Ty.has (Ty.lst Ty.ints cs) σ v1) (hv2 : Ty.has (Ty.lst Ty.ints rows) σ v2) (hv3 : Ty.has (Ty.lst Ty.int path) σ v3)  (hm : m + path.length = fct n) (ht : Tour n cs rows path r), FnC Try.prog 23 #[v0, v1, v2, v3] σ (Ty.tup2 (Ty.lst Ty.int ((circF cs (fct n) m rows path).getD [])) (Ty.bool (circF cs (fct n) m rows path).isSome)) := by
 intro m
 induction m using Nat.strongRecOn with
 | _ m ih =>
 intro n cs rows path r σ v0 v1 v2 v3 hv0 hv1 hv2 hv3 hm ht
 have hlt := ht.lt
 obtain ⟨f, rfl⟩ : ∃ f, m = f + 1 := ⟨m - 1, by omega⟩
 have hrl := ht.len
 have hrr := ht.rr
 have hcl := ht.cl
 have hn4 := ht.nn
 have hrw := rows_le ht.row ht.nd
 refine fn_intro0 Try.func23 rfl Try.ntmps23 (Nat.le_of_ble_eq_true rfl) (fun s0 a0 hle F0 ok0 hargs => ?_)
 have p0 : At (Ty.nat n) s0 a0 (.tmp 0) := by have e := hargs 0 _ rfl; show Ty.has _ _ _; rw [e]; exact Ty.up _ hle hv0
 have p1 : At (Ty.lst Ty.ints cs) s0 a0 (.tmp 1) := by have e := hargs 1 _ rfl; show Ty.has _ _ _; rw [e]; exact Ty.up _ hle hv1
 have b1 := sl_le p1
 have p2 : At (Ty.lst Ty.ints rows) s0 a0 (.tmp 2) := by have e := hargs 2 _ rfl; show Ty.has _ _ _; rw [e]; exact Ty.up _ hle hv2
 have b2 := sl_le p2
 have p3 : At (Ty.lst Ty.int path) s0 a0 (.tmp 3) := by have e := hargs 3 _ rfl; show Ty.has _ _ _; rw [e]; exact Ty.up _ hle hv3
 have b3 := sl_le p3
 clear hargs
 refine wp_seq ?_
 refine reg (a := a0) (σ := s0) rfl (fun i_ => List.getD [(Ty.pr (Ty.val (Value.slice none 0 0))), (Ty.pr (Ty.bool false))] i_ Pr.any) ok0 rfl ⟨?_, ?_, trivial⟩ ?_
 · intro ax tx hs okx sm
   exact run_plain rfl (y_assign rfl)
 · intro ax tx hs okx sm d0
   have e0 : At (Ty.val (Value.slice none 0 0)) tx ax (.tmp 8) := d0 rfl
   exact run_plain rfl (y_assign rfl)
 intro a1 s1 D1
 have ok1 := D1.ok
 have F1 := F0.step0 D1.stp
 have q1 : At (Ty.nat n) s1 a1 (.tmp 0) := D1.kt p0 rfl
 have q2 : At (Ty.lst Ty.ints cs) s1 a1 (.tmp 1) := D1.kt p1 rfl
 have q3 : At (Ty.lst Ty.ints rows) s1 a1 (.tmp 2) := D1.kt p2 rfl
 have q4 : At (Ty.lst Ty.int path) s1 a1 (.tmp 3) := D1.kt p3 rfl
 clear D1
 refine tn ?_
 refine wp_seq ?_
 refine wp_seq ?_
 refine reg (a := a1) (σ := s1) rfl (fun i_ => List.getD [(Ty.pr (Ty.int (0 : Int)))] i_ Pr.any) ok1 rfl ⟨?_, trivial⟩ ?_
 · intro ax tx hs okx sm
   exact run_plain rfl (y_assign rfl)
 intro a2 s2 D2
 have ok2 := D2.ok
 have F2 := F1.step0 D2.stp
 have q5 : At (Ty.nat n) s2 a2 (.tmp 0) := D2.kt q1 rfl
 have q6 : At (Ty.lst Ty.ints cs) s2 a2 (.tmp 1) := D2.kt q2 rfl
 have q7 : At (Ty.lst Ty.ints rows) s2 a2 (.tmp 2) := D2.kt q3 rfl
 have q8 : At (Ty.lst Ty.int path) s2 a2 (.tmp 3) := D2.kt q4 rfl
 have q9 : At (Ty.int (0 : Int)) s2 a2 (.tmp 10) := D2.done 0
 clear D2
 refine tn ?_
 refine wp_block ?_
 refine loop (fun n1 a3 w1 => ∃ (t1 : GW) (k : Nat), t1.w = w1 ∧ FromL [] s0 t1 ∧ Ok 67 a3 ∧ At (Ty.nat k) t1 a3 (.tmp 10) ∧ At (Ty.nat n) t1 a3 (.tmp 0) ∧ At (Ty.lst Ty.ints cs) t1 a3 (.tmp 1) ∧ At (Ty.lst Ty.ints rows) t1 a3 (.tmp 2) ∧ At (Ty.lst Ty.int path) t1 a3 (.tmp 3) ∧ (k ≤ cs.length) ∧ (∀ j, j < k → circK (circF cs (fct n) f) cs (fct n) rows path j = none) ∧ n1 = cs.length - k) (cs.length - (0)) ?_ ?_
 ·
  exact ⟨s2, 0, rfl, F2, ok2, (cvi (by (first | rfl | omega | (simp_all; done) | (simp_all; omega))) q9), q5, q6, q7, q8, by omega, fun j hj => absurd hj (Nat.not_lt_zero j), rfl⟩
 ·
  rintro n2 a4 w2 ⟨t2, k, rfl, F3, ok3, q10, q11, q12, q13, q14, hk, hno, rfl⟩
  refine wp_seq ?_
  refine wp_seq ?_
  refine reg (a := a4) (σ := t2) rfl (fun i_ => List.getD [(Ty.pr (Ty.nat k)), (Ty.pr (Ty.lst Ty.ints cs)), (Ty.pr (Ty.nat (List.length cs))), (Ty.pr (Ty.bool (decide (((k : Nat) : Int) < (((List.length cs) : Nat) : Int)))))] i_ Pr.any) ok3 rfl ⟨?_, ?_, ?_, ?_, trivial⟩ ?_
  · intro ax tx hs okx sm
    exact run_plain rfl (y_move (kp (sm 10 rfl) hs q10))
  · intro ax tx hs okx sm
    exact run_plain rfl (y_move (kp (sm 1 rfl) hs q12))
  · intro ax tx hs okx sm d0
    have e1 : At (Ty.lst Ty.ints cs) tx ax (.tmp 17) := d0 rfl
    exact run_plain rfl (y_len Try.underlying33 e1)
  · intro ax tx hs okx sm d0 d1
    have e0 : At (Ty.nat k) tx ax (.tmp 16) := d0 rfl
    have e2 : At (Ty.nat (List.length cs)) tx ax (.tmp 18) := d1 rfl
    exact run_plain rfl (y_lss e0 e2)
  intro a5 s3 D3
  have ok4 := D3.ok
  have F4 := F3.step0 D3.stp
  have q15 : At (Ty.nat k) s3 a5 (.tmp 10) := D3.kt q10 rfl
  have q16 : At (Ty.nat n) s3 a5 (.tmp 0) := D3.kt q11 rfl
  have q17 : At (Ty.lst Ty.ints cs) s3 a5 (.tmp 1) := D3.kt q12 rfl
  have q18 : At (Ty.lst Ty.ints rows) s3 a5 (.tmp 2) := D3.kt q13 rfl
  have q19 : At (Ty.lst Ty.int path) s3 a5 (.tmp 3) := D3.kt q14 rfl
  have q20 : At (Ty.bool (decide (((k : Nat) : Int) < (((List.length cs) : Nat) : Int)))) s3 a5 (.tmp 19) := D3.done 3
  clear D3
  refine tn ?_
  refine cond_p (p := (((k : Nat) : Int) < (((List.length cs) : Nat) : Int))) q20 (fun c1 => ?_) (fun c1 => ?_)
  ·
   have hk2 := ht.csr k (by omega); have hx := ht.x (k := k) (by omega); have hxl := hx.1.le; have hxr := hx.1; have hbd : ∀ i, i < (cs.getD k []).length → 0 ≤ (cs.getD k []).getD i 0 ∧ (cs.getD k []).getD i 0 < (rows.getD (rows.length - 1) []).length := (fun i hi => by rw [ht.last, hrr.2, ← hk2.2]; exact hk2.1.at hi); have hc2l : (cs.getD k []).length ≤ 12 := hk2.1.le
   refine wp_skip ?_
   refine tn ?_
   refine wp_seq ?_
   refine wp_block ?_
   refine wp_seq ?_
   refine reg (a := a5) (σ := s3) rfl (fun i_ => List.getD [(Ty.pr (Ty.lst Ty.ints rows)), (Ty.pr (Ty.lst Ty.ints rows)), (Ty.pr (Ty.nat (List.length rows))), (Ty.pr (Ty.nat ((List.length rows) - 1))), (Ty.pr (Ty.ref [(Ty.lst Ty.int (rows.getD ((List.length rows) - 1) []))])), (Ty.pr (Ty.lst Ty.int (rows.getD ((List.length rows) - 1) []))), (Ty.pr (Ty.lst Ty.ints cs)), (Ty.pr (Ty.nat k)), (Ty.pr (Ty.ref [(Ty.lst Ty.int (cs.getD k []))])), (Ty.pr (Ty.lst Ty.int (cs.getD k []))), (Ty.pr (Ty.lst Ty.int (byL ((rows.getD ((List.length rows) - 1) [])) ((cs.getD k []))))), (Ty.pr (Ty.lst Ty.int (byL ((rows.getD ((List.length rows) - 1) [])) ((cs.getD k [])))))] i_ Pr.any) ok4 rfl ⟨?_, ?_, ?_, ?_, ?_, ?_, ?_, ?_, ?_, ?_, ?_, ?_, trivial⟩ ?_
   · intro ax tx hs okx sm
     exact run_plain rfl (y_move (kp (sm 2 rfl) hs q18))
   · intro ax tx hs okx sm
     exact run_plain rfl (y_move (kp (sm 2 rfl) hs q18))
   · intro ax tx hs okx sm d0
     have e1 : At (Ty.lst Ty.ints rows) tx ax (.tmp 23) := d0 rfl
     exact run_plain rfl (y_len Try.underlying33 e1)
   · intro ax tx hs okx sm d0
     have e2 : At (Ty.nat (List.length rows)) tx ax (.tmp 24) := d0 rfl
     exact run_plain rfl ((y_sub e2 rfl (w64 (by omega) (by omega))).mono (fun τ _ h => cvi (σ := τ) (by omega) h))
   · intro ax tx hs okx sm d0 d1
     have e0 : At (Ty.lst Ty.ints rows) tx ax (.tmp 22) := d0 rfl
     have e3 : At (Ty.nat ((List.length rows) - 1)) tx ax (.tmp 25) := d1 rfl
     exact run_plain rfl (y_index1 Try.underlying33 Try.inf34 e0 e3 (by omega) (lst_get Ty.ints rows [] ((List.length rows) - 1) (by omega)))
   · intro ax tx hs okx sm d0
     have e4 : At (Ty.ref [(Ty.lst Ty.int (rows.getD ((List.length rows) - 1) []))]) tx ax (.tmp 26) := d0 rfl
     exact run_plain rfl (y_load Try.underlying34 rfl e4 rfl)
   · intro ax tx hs okx sm
     exact run_plain rfl (y_move (kp (sm 1 rfl) hs q17))
   · intro ax tx hs okx sm
     exact run_plain rfl (y_move (kp (sm 10 rfl) hs q15))
   · intro ax tx hs okx sm d0 d1
     have e6 : At (Ty.lst Ty.ints cs) tx ax (.tmp 28) := d0 rfl
     have e7 : At (Ty.nat k) tx ax (.tmp 29) := d1 rfl
     exact run_plain rfl (y_index1 Try.underlying33 Try.inf34 e6 e7 (by omega) (lst_get Ty.ints cs [] k (by omega)))
   · intro ax tx hs okx sm d0
     have e8 : At (Ty.ref [(Ty.lst Ty.int (cs.getD k []))]) tx ax (.tmp 30) := d0 rfl
     exact run_plain rfl (y_load Try.underlying34 rfl e8 rfl)
   · intro ax tx hs okx sm d0 d1
     have e5 : At (Ty.lst Ty.int (rows.getD ((List.length rows) - 1) [])) tx ax (.tmp 27) := d0 rfl
     have e9 : At (Ty.lst Ty.int (cs.getD k [])) tx ax (.tmp 31) := d1 rfl
     exact run_plain rfl (y_call #[ax.eval (.tmp 27), ax.eval (.tmp 31)] Try.func51 rfl rfl (by simp only [List.map_toArray, List.map_cons, List.map_nil]) (rBy_fn ((rows.getD ((List.length rows) - 1) [])) ((cs.getD k [])) _ _ _ e5 e9 (by first | assumption | omega) (by first | assumption | omega)))
   · intro ax tx hs okx sm d0 d1 d2 d3 d4 d5 d6 d7 d8 d9 d10 d11 d12
     have e10 : At (Ty.lst Ty.int (byL ((rows.getD ((List.length rows) - 1) [])) ((cs.getD k [])))) tx ax (.tmp 32) := d0 rfl
     have e0 : At (Ty.lst Ty.ints rows) tx ax (.tmp 22) := d2 rfl
     have e1 : At (Ty.lst Ty.ints rows) tx ax (.tmp 23) := d3 rfl
     have e2 : At (Ty.nat (List.length rows)) tx ax (.tmp 24) := d4 rfl
     have e3 : At (Ty.nat ((List.length rows) - 1)) tx ax (.tmp 25) := d5 rfl
     have e4 : At (Ty.ref [(Ty.lst Ty.int (rows.getD ((List.length rows) - 1) []))]) tx ax (.tmp 26) := d6 rfl
     have e5 : At (Ty.lst Ty.int (rows.getD ((List.length rows) - 1) [])) tx ax (.tmp 27) := d7 rfl
     have e6 : At (Ty.lst Ty.ints cs) tx ax (.tmp 28) := d8 rfl
     have e7 : At (Ty.nat k) tx ax (.tmp 29) := d9 rfl
     have e8 : At (Ty.ref [(Ty.lst Ty.int (cs.getD k []))]) tx ax (.tmp 30) := d10 rfl
     have e9 : At (Ty.lst Ty.int (cs.getD k [])) tx ax (.tmp 31) := d11 rfl
     exact run_plain rfl (y_assign e10)
   intro a6 s4 D4
   have ok5 := D4.ok
   have F5 := F4.step0 D4.stp
   have q21 : At (Ty.nat k) s4 a6 (.tmp 10) := D4.kt q15 rfl
   have q22 : At (Ty.nat n) s4 a6 (.tmp 0) := D4.kt q16 rfl
   have q23 : At (Ty.lst Ty.ints cs) s4 a6 (.tmp 1) := D4.kt q17 rfl
   have q24 : At (Ty.lst Ty.ints rows) s4 a6 (.tmp 2) := D4.kt q18 rfl
   have q25 : At (Ty.lst Ty.int path) s4 a6 (.tmp 3) := D4.kt q19 rfl
   have q26 : At (Ty.lst Ty.int (byL ((rows.getD ((List.length rows) - 1) [])) ((cs.getD k [])))) s4 a6 (.tmp 11) := D4.done 11
   clear D4
   have q27 : At (Ty.lst Ty.int (byL r (cs.getD k []))) s4 a6 (.tmp 11) := (cvt (by (rw [ht.last])) q26)
   refine tn ?_
   refine wp_seq ?_
   refine reg2 (a := a6) (σ := s4) rfl 2 (fun i_ => List.getD [(Pr.own 5 3 1 0 (List.map Ty.int ([] : List Int))), (Ty.pr (Ty.lst Ty.int path))] i_ Pr.any) ok5 rfl (by decide) rfl ⟨?_, ?_, trivial⟩ ?_
   · intro ax tx hs okx sm
     exact run_plain rfl ((y_lit0 (k := 5) Try.underlying34 Try.inf3).mono (fun _ _ h => cvo (by simp) (by simp) h))
   · intro ax tx hs okx sm
     exact run_plain rfl (y_move (kp (sm 3 rfl) hs q25))
   intro a7 s5 D5
   have ok6 := D5.ok
   have F6 := F5.step0 D5.stp
   have q28 : At (Ty.nat k) s5 a7 (.tmp 10) := D5.kt q21 rfl
   have q29 : At (Ty.nat n) s5 a7 (.tmp 0) := D5.kt q22 rfl
   have q30 : At (Ty.lst Ty.ints cs) s5 a7 (.tmp 1) := D5.kt q23 rfl
   have q31 : At (Ty.lst Ty.ints rows) s5 a7 (.tmp 2) := D5.kt q24 rfl
   have q32 : At (Ty.lst Ty.int path) s5 a7 (.tmp 3) := D5.kt q25 rfl
   have q33 : At (Ty.lst Ty.int (byL r (cs.getD k []))) s5 a7 (.tmp 11) := D5.kt q27 rfl
   obtain ⟨x1, hx1⟩ : ∃ x, a7.eval (.tmp 33) = x := ⟨_, rfl⟩
   have q34 : At (Ty.val x1) s5 a7 (.tmp 33) := hx1
   have o1 : Own s5 5 3 1 x1 0 (List.map Ty.int ([] : List Int)) := al2 (R := (Pr.own 5 3 1 0 (List.map Ty.int ([] : List Int)))) hx1 (D5.done 0 (by decide))
   have q35 : At (Ty.lst Ty.int path) s5 a7 (.tmp 34) := D5.done 1 (by decide)
   clear D5
   refine tailL (L := [5]) (R := (fun v τ => Own τ 5 3 1 v (0 + (List.length path)) ((List.map Ty.int ([] : List Int)) ++ (List.map Ty.int path)))) rfl rfl (by decide) ok6 (YldM.toL (m_append Try.underlying34 Try.inf3 (by decide) rfl (by decide) (al (R := (Pr.own 5 3 1 0 (List.map Ty.int ([] : List Int)))) q34 o1) q35 (by intro U hU; simp at hU; obtain ⟨_, _, rfl⟩ := hU; exact one_val rfl) (by omega) (by omega))) (fun a8 s6 hs1 ok7 r1 sm1 => ?_)
   have F7 := F6.stepL hs1 (by decide)
   have q36 : At (Ty.nat k) s6 a8 (.tmp 10) := kpL hs1 (by decide) (sm1 10 (by decide)) q28
   have q37 : At (Ty.nat n) s6 a8 (.tmp 0) := kpL hs1 (by decide) (sm1 0 (by decide)) q29
   have q38 : At (Ty.lst Ty.ints cs) s6 a8 (.tmp 1) := kpL hs1 (by decide) (sm1 1 (by decide)) q30
   have q39 : At (Ty.lst Ty.ints rows) s6 a8 (.tmp 2) := kpL hs1 (by decide) (sm1 2 (by decide)) q31
   have q40 : At (Ty.lst Ty.int path) s6 a8 (.tmp 3) := kpL hs1 (by decide) (sm1 3 (by decide)) q32
   have q41 : At (Ty.lst Ty.int (byL r (cs.getD k []))) s6 a8 (.tmp 11) := kpL hs1 (by decide) (sm1 11 (by decide)) q33
   obtain ⟨x2, hx2⟩ : ∃ x, a8.eval (.tmp 35) = x := ⟨_, rfl⟩
   have q42 : At (Ty.val x2) s6 a8 (.tmp 35) := hx2
   have o2 : Own s6 5 3 1 x2 (List.length path) (List.map Ty.int path) := al2 (R := (Pr.own 5 3 1 (List.length path) (List.map Ty.int path))) hx2 (cvo (by simp) (by first | (rw [List.map_append]; rfl) | simp) r1)
   clear r1
   refine tailL (L := []) (R := (fun v τ => Pr.has (Ty.pr (Ty.nat k)) τ v)) rfl rfl (by decide) ok7 (Yld.toL (y_move q36)) (fun a9 s7 hs2 ok8 r2 sm2 => ?_)
   have F8 := F7.stepL hs2 (by decide)
   have q43 : At (Ty.nat k) s7 a9 (.tmp 10) := kpL hs2 (by decide) (sm2 10 (by decide)) q36
   have q44 : At (Ty.nat n) s7 a9 (.tmp 0) := kpL hs2 (by decide) (sm2 0 (by decide)) q37
   have q45 : At (Ty.lst Ty.ints cs) s7 a9 (.tmp 1) := kpL hs2 (by decide) (sm2 1 (by decide)) q38
   have q46 : At (Ty.lst Ty.ints rows) s7 a9 (.tmp 2) := kpL hs2 (by decide) (sm2 2 (by decide)) q39
   have q47 : At (Ty.lst Ty.int path) s7 a9 (.tmp 3) := kpL hs2 (by decide) (sm2 3 (by decide)) q40
   have q48 : At (Ty.lst Ty.int (byL r (cs.getD k []))) s7 a9 (.tmp 11) := kpL hs2 (by decide) (sm2 11 (by decide)) q41
   have q49 : At (Ty.val x2) s7 a9 (.tmp 35) := kpL hs2 (by decide) (sm2 35 (by decide)) q42
   have o3 := Own.keepL o2 hs2 (by decide) (by decide)
   have q50 : At (Ty.nat k) s7 a9 (.tmp 36) := r2
   clear r2
   refine tailL (L := []) (R := (fun v τ => Pr.has (Ty.pr (Ty.sl 1 1 [(Ty.nat k)])) τ v)) rfl rfl (by decide) ok8 (Yld.toL (y_build1o Try.underlying34 Try.inf3 rfl (one_val rfl) q50)) (fun a10 s8 hs3 ok9 r3 sm3 => ?_)
   have F9 := F8.stepL hs3 (by decide)
   have q51 : At (Ty.nat k) s8 a10 (.tmp 10) := kpL hs3 (by decide) (sm3 10 (by decide)) q43
   have q52 : At (Ty.nat n) s8 a10 (.tmp 0) := kpL hs3 (by decide) (sm3 0 (by decide)) q44
   have q53 : At (Ty.lst Ty.ints cs) s8 a10 (.tmp 1) := kpL hs3 (by decide) (sm3 1 (by decide)) q45
   have q54 : At (Ty.lst Ty.ints rows) s8 a10 (.tmp 2) := kpL hs3 (by decide) (sm3 2 (by decide)) q46
   have q55 : At (Ty.lst Ty.int path) s8 a10 (.tmp 3) := kpL hs3 (by decide) (sm3 3 (by decide)) q47
   have q56 : At (Ty.lst Ty.int (byL r (cs.getD k []))) s8 a10 (.tmp 11) := kpL hs3 (by decide) (sm3 11 (by decide)) q48
   have q57 : At (Ty.val x2) s8 a10 (.tmp 35) := kpL hs3 (by decide) (sm3 35 (by decide)) q49
   have o4 := Own.keepL o3 hs3 (by decide) (by decide)
   have q58 : At (Ty.sl 1 1 [(Ty.nat k)]) s8 a10 (.tmp 37) := r3
   clear r3
   refine tailL (L := [5]) (R := (fun v τ => Own τ 5 3 1 v ((List.length path) + 1) ((List.map Ty.int path) ++ [(Ty.nat k)]))) rfl rfl (by decide) ok9 (YldM.toL (m_append Try.underlying34 Try.inf3 (by decide) rfl (by decide) (al (R := (Pr.own 5 3 1 (List.length path) (List.map Ty.int path))) q57 o4) q58 (by intro U hU; simp at hU; subst hU; exact one_val rfl) (by omega) (by omega))) (fun a11 s9 hs4 ok10 r4 sm4 => ?_)
   have F10 := F9.stepL hs4 (by decide)
   have q59 : At (Ty.nat k) s9 a11 (.tmp 10) := kpL hs4 (by decide) (sm4 10 (by decide)) q51
   have q60 : At (Ty.nat n) s9 a11 (.tmp 0) := kpL hs4 (by decide) (sm4 0 (by decide)) q52
   have q61 : At (Ty.lst Ty.ints cs) s9 a11 (.tmp 1) := kpL hs4 (by decide) (sm4 1 (by decide)) q53
   have q62 : At (Ty.lst Ty.ints rows) s9 a11 (.tmp 2) := kpL hs4 (by decide) (sm4 2 (by decide)) q54
   have q63 : At (Ty.lst Ty.int path) s9 a11 (.tmp 3) := kpL hs4 (by decide) (sm4 3 (by decide)) q55
   have q64 : At (Ty.lst Ty.int (byL r (cs.getD k []))) s9 a11 (.tmp 11) := kpL hs4 (by decide) (sm4 11 (by decide)) q56
   obtain ⟨x3, hx3⟩ : ∃ x, a11.eval (.tmp 38) = x := ⟨_, rfl⟩
   have q65 : At (Ty.val x3) s9 a11 (.tmp 38) := hx3
   have o5 : Own s9 5 3 1 x3 (List.length (path ++ [((k : Nat) : Int)])) (List.map Ty.int (path ++ [((k : Nat) : Int)])) := al2 (R := (Pr.own 5 3 1 (List.length (path ++ [((k : Nat) : Int)])) (List.map Ty.int (path ++ [((k : Nat) : Int)])))) hx3 (cvo (by simp) (by first | (rw [List.map_append]; rfl) | simp) r4)
   clear r4
   refine tailL (L := []) (R := (fun v τ => Pr.has (Ty.pr (Ty.val x3)) τ v)) rfl rfl (by decide) ok10 (Yld.toL (y_assign q65)) (fun a12 s10 hs5 ok11 r5 sm5 => ?_)
   have F11 := F10.stepL hs5 (by decide)
   have q66 : At (Ty.nat k) s10 a12 (.tmp 10) := kpL hs5 (by decide) (sm5 10 (by decide)) q59
   have q67 : At (Ty.nat n) s10 a12 (.tmp 0) := kpL hs5 (by decide) (sm5 0 (by decide)) q60
   have q68 : At (Ty.lst Ty.ints cs) s10 a12 (.tmp 1) := kpL hs5 (by decide) (sm5 1 (by decide)) q61
   have q69 : At (Ty.lst Ty.ints rows) s10 a12 (.tmp 2) := kpL hs5 (by decide) (sm5 2 (by decide)) q62
   have q70 : At (Ty.lst Ty.int path) s10 a12 (.tmp 3) := kpL hs5 (by decide) (sm5 3 (by decide)) q63
   have q71 : At (Ty.lst Ty.int (byL r (cs.getD k []))) s10 a12 (.tmp 11) := kpL hs5 (by decide) (sm5 11 (by decide)) q64
   have o6 := Own.keepL o5 hs5 (by decide) (by decide)
   have q72 : At (Ty.val x3) s10 a12 (.tmp 12) := r5
   clear r5
   refine wpList_nil ?_
   have o7 : Own s10 5 3 1 x3 (List.length (path ++ [((k : Nat) : Int)])) (List.map Ty.int (path ++ [((k : Nat) : Int)])) := o6
   refine tn ?_
   refine wp_seq ?_
   refine wp_seq ?_
   refine reg (a := a12) (σ := s10) rfl (fun i_ => List.getD [(Ty.pr (Ty.val x3)), (Ty.pr (Ty.nat (List.length (path ++ [((k : Nat) : Int)])))), (Ty.pr (Ty.nat n)), (Ty.pr (Ty.nat (fct n))), (Ty.pr (Ty.bool (decide ((((List.length (path ++ [((k : Nat) : Int)])) : Nat) : Int) = (((fct n) : Nat) : Int)))))] i_ Pr.any) ok11 rfl ⟨?_, ?_, ?_, ?_, ?_, trivial⟩ ?_
   · intro ax tx hs okx sm
     exact run_plain rfl (y_move (kp (sm 12 rfl) hs q72))
   · intro ax tx hs okx sm d0
     have e0 : At (Ty.val x3) tx ax (.tmp 39) := d0 rfl
     exact run_plain rfl (own_len Try.underlying34 (al (R := (Pr.own 5 3 1 (List.length (path ++ [((k : Nat) : Int)])) (List.map Ty.int (path ++ [((k : Nat) : Int)])))) e0 (Own.k0 o7 hs)))
   · intro ax tx hs okx sm
     exact run_plain rfl (y_move (kp (sm 0 rfl) hs q67))
   · intro ax tx hs okx sm d0
     have e2 : At (Ty.nat n) tx ax (.tmp 41) := d0 rfl
     exact run_plain rfl (y_call #[ax.eval (.tmp 41)] Try.func35 rfl rfl (by simp only [List.map_toArray, List.map_cons, List.map_nil]) (rFact_fn (n) (n) _ _ e2 (by omega) (by omega)))
   · intro ax tx hs okx sm d0 d1
     have e1 : At (Ty.nat (List.length (path ++ [((k : Nat) : Int)]))) tx ax (.tmp 40) := d0 rfl
     have e3 : At (Ty.nat (fct n)) tx ax (.tmp 42) := d1 rfl
     exact run_plain rfl (y_eql e1 e3)
   intro a13 s11 D6
   have ok12 := D6.ok
   have F12 := F11.step0 D6.stp
   have q73 : At (Ty.nat k) s11 a13 (.tmp 10) := D6.kt q66 rfl
   have q74 : At (Ty.nat n) s11 a13 (.tmp 0) := D6.kt q67 rfl
   have q75 : At (Ty.lst Ty.ints cs) s11 a13 (.tmp 1) := D6.kt q68 rfl
   have q76 : At (Ty.lst Ty.ints rows) s11 a13 (.tmp 2) := D6.kt q69 rfl
   have q77 : At (Ty.lst Ty.int path) s11 a13 (.tmp 3) := D6.kt q70 rfl
   have q78 : At (Ty.lst Ty.int (byL r (cs.getD k []))) s11 a13 (.tmp 11) := D6.kt q71 rfl
   have q79 : At (Ty.val x3) s11 a13 (.tmp 12) := D6.kt q72 rfl
   have o8 := Own.k0 o7 D6.stp
   have q80 : At (Ty.bool (decide ((((List.length (path ++ [((k : Nat) : Int)])) : Nat) : Int) = (((fct n) : Nat) : Int)))) s11 a13 (.tmp 43) := D6.done 4
   clear D6
   refine tn ?_
   refine cond_p (p := ((((List.length (path ++ [((k : Nat) : Int)])) : Nat) : Int) = (((fct n) : Nat) : Int))) q80 (fun c2 => ?_) (fun c2 => ?_)
   ·
    have hpn : path.length + 1 = fct n := (by simp only [List.length_append, List.length_cons, List.length_nil] at c2; omega)
    refine wp_seq ?_
    refine wp_seq ?_
    refine reg (a := a13) (σ := s11) rfl (fun i_ => List.getD [(Ty.pr (Ty.lst Ty.int (byL r (cs.getD k [])))), (Ty.pr (Ty.nat (rankL ((byL r (cs.getD k [])))))), (Ty.pr (Ty.bool (decide ((((rankL ((byL r (cs.getD k [])))) : Nat) : Int) = (0 : Int)))))] i_ Pr.any) ok12 rfl ⟨?_, ?_, ?_, trivial⟩ ?_
    · intro ax tx hs okx sm
      exact run_plain rfl (y_move (kp (sm 11 rfl) hs q78))
    · intro ax tx hs okx sm d0
      have e0 : At (Ty.lst Ty.int (byL r (cs.getD k []))) tx ax (.tmp 44) := d0 rfl
      exact run_plain rfl (y_call #[ax.eval (.tmp 44)] Try.func47 rfl rfl (by simp only [List.map_toArray, List.map_cons, List.map_nil]) (rRank_fn ((byL r (cs.getD k []))) _ _ e0 (by first | omega | assumption)))
    · intro ax tx hs okx sm d0
      have e1 : At (Ty.nat (rankL ((byL r (cs.getD k []))))) tx ax (.tmp 45) := d0 rfl
      exact run_plain rfl (y_eql e1 rfl)
    intro a14 s12 D7
    have ok13 := D7.ok
    have F13 := F12.step0 D7.stp
    have q81 : At (Ty.nat k) s12 a14 (.tmp 10) := D7.kt q73 rfl
    have q82 : At (Ty.nat n) s12 a14 (.tmp 0) := D7.kt q74 rfl
    have q83 : At (Ty.lst Ty.ints cs) s12 a14 (.tmp 1) := D7.kt q75 rfl
    have q84 : At (Ty.lst Ty.ints rows) s12 a14 (.tmp 2) := D7.kt q76 rfl
    have q85 : At (Ty.lst Ty.int path) s12 a14 (.tmp 3) := D7.kt q77 rfl
    have q86 : At (Ty.val x3) s12 a14 (.tmp 12) := D7.kt q79 rfl
    have o9 := Own.k0 o8 D7.stp
    have q87 : At (Ty.bool (decide ((((rankL ((byL r (cs.getD k [])))) : Nat) : Int) = (0 : Int)))) s12 a14 (.tmp 46) := D7.done 2
    clear D7
    refine tn ?_
    refine cond_p (p := ((((rankL ((byL r (cs.getD k [])))) : Nat) : Int) = (0 : Int))) q87 (fun c3 => ?_) (fun c3 => ?_)
    ·
     refine wp_seq ?_
     refine reg (a := a14) (σ := s12) rfl (fun i_ => List.getD [(Ty.pr (Ty.val x3)), (Ty.pr (Ty.val x3)), (Ty.pr (Ty.bool true))] i_ Pr.any) ok13 rfl ⟨?_, ?_, ?_, trivial⟩ ?_
     · intro ax tx hs okx sm
       exact run_plain rfl (y_move (kp (sm 12 rfl) hs q86))
     · intro ax tx hs okx sm d0 d1
       have e0 : At (Ty.val x3) tx ax (.tmp 47) := d0 rfl
       exact run_plain rfl (y_assign e0)
     · intro ax tx hs okx sm d0 d1 d2
       have e1 : At (Ty.val x3) tx ax (.tmp 8) := d0 rfl
       have e0 : At (Ty.val x3) tx ax (.tmp 47) := d1 rfl
       exact run_plain rfl (y_assign rfl)
     intro a15 s13 D8
     have ok14 := D8.ok
     have F14 := F13.step0 D8.stp
     have o10 := Own.k0 o9 D8.stp
     have q88 : At (Ty.val x3) s13 a15 (.tmp 8) := D8.done 1
     have q89 : At (Ty.bool true) s13 a15 (.tmp 9) := D8.done 2
     clear D8
     refine tn ?_
     refine wp_ret ?_
     refine tr ?_
     refine tr ?_
     refine br ?_
     refine tr ?_
     refine tr ?_
     refine br ?_
     refine tr ?_
     obtain ⟨t3, e1, h1, q90⟩ := Own.seal o10 (by decide)
     rw [← e1]
     have F15 := F14.step h1 (by decide)
     have q91 : At (Ty.lst Ty.int (path ++ [((k : Nat) : Int)])) t3 a15 (.tmp 8) := by have e : a15.eval (.tmp 8) = x3 := q88; show Ty.has _ _ _; rw [e]; exact q90
     have q92 := Ty.up (Ty.bool true) (h1.le (by decide)) q89
     exact retL2 rfl ok14 F15 (hasT2 (cvt (by (rw [circ_found hno (by omega) (circK_hit ht.last hpn (by omega))]; rfl)) q91) (cvb (by (rw [circ_found hno (by omega) (circK_hit ht.last hpn (by omega))]; rfl)) q92))
    ·
     refine wp_skip ?_
     refine tn ?_
     refine wp_exit ?_
     refine tx ?_
     refine bx ?_
     refine tn ?_
     refine reg (a := a14) (σ := s12) rfl (fun i_ => List.getD [(Ty.pr (Ty.nat k)), (Ty.pr (Ty.nat (k + 1))), (Ty.pr (Ty.nat (k + 1)))] i_ Pr.any) ok13 rfl ⟨?_, ?_, ?_, trivial⟩ ?_
     · intro ax tx hs okx sm
       exact run_plain rfl (y_move (kp (sm 10 rfl) hs q81))
     · intro ax tx hs okx sm d0
       have e0 : At (Ty.nat k) tx ax (.tmp 20) := d0 rfl
       exact run_plain rfl ((y_add e0 rfl (w64 (by omega) (by omega))).mono (fun τ _ h => cvi (σ := τ) (by first | omega | exact (Int.natCast_mul _ _).symm) h))
     · intro ax tx hs okx sm d0 d1 d2
       have e1 : At (Ty.nat (k + 1)) tx ax (.tmp 21) := d0 rfl
       have e0 : At (Ty.nat k) tx ax (.tmp 20) := d1 rfl
       exact run_plain rfl (y_assign e1)
     intro a16 s14 D9
     have ok15 := D9.ok
     have F16 := F13.step0 D9.stp
     have q93 : At (Ty.nat n) s14 a16 (.tmp 0) := D9.kt q82 rfl
     have q94 : At (Ty.lst Ty.ints cs) s14 a16 (.tmp 1) := D9.kt q83 rfl
     have q95 : At (Ty.lst Ty.ints rows) s14 a16 (.tmp 2) := D9.kt q84 rfl
     have q96 : At (Ty.lst Ty.int path) s14 a16 (.tmp 3) := D9.kt q85 rfl
     have o11 := Own.k0 o9 D9.stp
     have q97 : At (Ty.nat (k + 1)) s14 a16 (.tmp 10) := D9.done 2
     clear D9
     exact tn ⟨cs.length - ((k+1)), by omega, s14, (k+1), rfl, F16, ok15, (cvi (by (first | rfl | omega | (simp_all; done) | (simp_all; omega))) q97), q93, q94, q95, q96, by omega, no_snoc hno (circK_in ht.last (fun h => c3 (by omega)) (.inl hpn)), rfl⟩
   ·
    have hpn : path.length + 1 ≠ fct n := (by simp only [List.length_append, List.length_cons, List.length_nil] at c2; omega)
    refine wp_skip ?_
    refine tn ?_
    refine wp_seq ?_
    refine reg (a := a13) (σ := s11) rfl (fun i_ => List.getD [(Ty.pr (Ty.lst Ty.ints rows)), (Ty.pr (Ty.lst Ty.int (byL r (cs.getD k [])))), (Ty.pr (Ty.bool (decide (((byL r (cs.getD k []))) ∈ (rows))))), (Ty.pr (Ty.bool (decide (((byL r (cs.getD k []))) ∈ (rows)))))] i_ Pr.any) ok12 rfl ⟨?_, ?_, ?_, ?_, trivial⟩ ?_
    · intro ax tx hs okx sm
      exact run_plain rfl (y_move (kp (sm 2 rfl) hs q76))
    · intro ax tx hs okx sm
      exact run_plain rfl (y_move (kp (sm 11 rfl) hs q78))
    · intro ax tx hs okx sm d0 d1
      have e0 : At (Ty.lst Ty.ints rows) tx ax (.tmp 48) := d0 rfl
      have e1 : At (Ty.lst Ty.int (byL r (cs.getD k []))) tx ax (.tmp 49) := d1 rfl
      exact run_plain rfl (y_call #[ax.eval (.tmp 48), ax.eval (.tmp 49)] Try.func86 rfl rfl (by simp only [List.map_toArray, List.map_cons, List.map_nil]) (rHas_fn (rows) ((byL r (cs.getD k []))) _ _ _ e0 e1 ))
    · intro ax tx hs okx sm d0 d1 d2 d3 d4
      have e2 : At (Ty.bool (decide (((byL r (cs.getD k []))) ∈ (rows)))) tx ax (.tmp 50) := d0 rfl
      have e0 : At (Ty.lst Ty.ints rows) tx ax (.tmp 48) := d2 rfl
      have e1 : At (Ty.lst Ty.int (byL r (cs.getD k []))) tx ax (.tmp 49) := d3 rfl
      exact run_plain rfl (y_assign e2)
    intro a17 s15 D10
    have ok16 := D10.ok
    have F17 := F12.step0 D10.stp
    have q98 : At (Ty.nat k) s15 a17 (.tmp 10) := D10.kt q73 rfl
    have q99 : At (Ty.nat n) s15 a17 (.tmp 0) := D10.kt q74 rfl
    have q100 : At (Ty.lst Ty.ints cs) s15 a17 (.tmp 1) := D10.kt q75 rfl
    have q101 : At (Ty.lst Ty.ints rows) s15 a17 (.tmp 2) := D10.kt q76 rfl
    have q102 : At (Ty.lst Ty.int path) s15 a17 (.tmp 3) := D10.kt q77 rfl
    have q103 : At (Ty.lst Ty.int (byL r (cs.getD k []))) s15 a17 (.tmp 11) := D10.kt q78 rfl
    have q104 : At (Ty.val x3) s15 a17 (.tmp 12) := D10.kt q79 rfl
    have o12 := Own.k0 o8 D10.stp
    have q105 : At (Ty.bool (decide (((byL r (cs.getD k []))) ∈ (rows)))) s15 a17 (.tmp 13) := D10.done 3
    clear D10
    refine tn ?_
    refine wp_seq ?_
    refine wp_seq ?_
    refine reg (a := a17) (σ := s15) rfl (fun i_ => List.getD [(Ty.pr (Ty.bool (decide (((byL r (cs.getD k []))) ∈ (rows)))))] i_ Pr.any) ok16 rfl ⟨?_, trivial⟩ ?_
    · intro ax tx hs okx sm
      exact run_plain rfl (y_move (kp (sm 13 rfl) hs q105))
    intro a18 s16 D11
    have ok17 := D11.ok
    have F18 := F17.step0 D11.stp
    have q106 : At (Ty.nat k) s16 a18 (.tmp 10) := D11.kt q98 rfl
    have q107 : At (Ty.nat n) s16 a18 (.tmp 0) := D11.kt q99 rfl
    have q108 : At (Ty.lst Ty.ints cs) s16 a18 (.tmp 1) := D11.kt q100 rfl
    have q109 : At (Ty.lst Ty.ints rows) s16 a18 (.tmp 2) := D11.kt q101 rfl
    have q110 : At (Ty.lst Ty.int path) s16 a18 (.tmp 3) := D11.kt q102 rfl
    have q111 : At (Ty.lst Ty.int (byL r (cs.getD k []))) s16 a18 (.tmp 11) := D11.kt q103 rfl
    have q112 : At (Ty.val x3) s16 a18 (.tmp 12) := D11.kt q104 rfl
    have o13 := Own.k0 o12 D11.stp
    have q113 : At (Ty.bool (decide (((byL r (cs.getD k []))) ∈ (rows)))) s16 a18 (.tmp 51) := D11.done 0
    clear D11
    refine tn ?_
    refine cond_t q113 (fun c4 => ?_) (fun c4 => ?_)
    ·
     refine wp_exit ?_
     refine tx ?_
     refine bx ?_
     refine tn ?_
     refine reg (a := a18) (σ := s16) rfl (fun i_ => List.getD [(Ty.pr (Ty.nat k)), (Ty.pr (Ty.nat (k + 1))), (Ty.pr (Ty.nat (k + 1)))] i_ Pr.any) ok17 rfl ⟨?_, ?_, ?_, trivial⟩ ?_
     · intro ax tx hs okx sm
       exact run_plain rfl (y_move (kp (sm 10 rfl) hs q106))
     · intro ax tx hs okx sm d0
       have e0 : At (Ty.nat k) tx ax (.tmp 20) := d0 rfl
       exact run_plain rfl ((y_add e0 rfl (w64 (by omega) (by omega))).mono (fun τ _ h => cvi (σ := τ) (by first | omega | exact (Int.natCast_mul _ _).symm) h))
     · intro ax tx hs okx sm d0 d1 d2
       have e1 : At (Ty.nat (k + 1)) tx ax (.tmp 21) := d0 rfl
       have e0 : At (Ty.nat k) tx ax (.tmp 20) := d1 rfl
       exact run_plain rfl (y_assign e1)
     intro a19 s17 D12
     have ok18 := D12.ok
     have F19 := F18.step0 D12.stp
     have q114 : At (Ty.nat n) s17 a19 (.tmp 0) := D12.kt q107 rfl
     have q115 : At (Ty.lst Ty.ints cs) s17 a19 (.tmp 1) := D12.kt q108 rfl
     have q116 : At (Ty.lst Ty.ints rows) s17 a19 (.tmp 2) := D12.kt q109 rfl
     have q117 : At (Ty.lst Ty.int path) s17 a19 (.tmp 3) := D12.kt q110 rfl
     have o14 := Own.k0 o13 D12.stp
     have q118 : At (Ty.nat (k + 1)) s17 a19 (.tmp 10) := D12.done 2
     clear D12
     exact tn ⟨cs.length - ((k+1)), by omega, s17, (k+1), rfl, F19, ok18, (cvi (by (first | rfl | omega | (simp_all; done) | (simp_all; omega))) q118), q114, q115, q116, q117, by omega, no_snoc hno (circK_in ht.last (fun h => hpn h.1) (.inr (of_decide_eq_true c4))), rfl⟩
    ·
     have hxn : byL r (cs.getD k []) ∉ rows := of_decide_eq_false c4; have hnx := ht.next (k := k) (by omega) hxn; have hxf := hx.1
     refine wp_skip ?_
     refine tn ?_
     refine wp_seq ?_
     obtain ⟨t4, e2, h2, q119⟩ := Own.seal o13 (by decide)
     rw [← e2]
     have F20 := F18.step h2 (by decide)
     have q120 := Ty.up (Ty.nat k) (h2.le (by decide)) q106
     have q121 := Ty.up (Ty.nat n) (h2.le (by decide)) q107
     have q122 := Ty.up (Ty.lst Ty.ints cs) (h2.le (by decide)) q108
     have q123 := Ty.up (Ty.lst Ty.ints rows) (h2.le (by decide)) q109
     have q124 := Ty.up (Ty.lst Ty.int path) (h2.le (by decide)) q110
     have q125 := Ty.up (Ty.lst Ty.int (byL r (cs.getD k []))) (h2.le (by decide)) q111
     have q126 : At (Ty.lst Ty.int (path ++ [((k : Nat) : Int)])) t4 a18 (.tmp 12) := by have e : a18.eval (.tmp 12) = x3 := q112; show Ty.has _ _ _; rw [e]; exact q119
     have q127 := Ty.up (Ty.bool (decide (((byL r (cs.getD k []))) ∈ (rows)))) (h2.le (by decide)) q113
     refine reg2 (a := a18) (σ := t4) rfl 4 (fun i_ => List.getD [(Ty.pr (Ty.nat n)), (Ty.pr (Ty.lst Ty.ints cs)), (Pr.own 6 34 1 0 (List.map Ty.ints ([] : List (List Int)))), (Ty.pr (Ty.lst Ty.ints rows))] i_ Pr.any) ok17 rfl (by decide) rfl ⟨?_, ?_, ?_, ?_, trivial⟩ ?_
     · intro ax tx hs okx sm
       exact run_plain rfl (y_move (kp (sm 0 rfl) hs q121))
     · intro ax tx hs okx sm
       exact run_plain rfl (y_move (kp (sm 1 rfl) hs q122))
     · intro ax tx hs okx sm
       exact run_plain rfl ((y_lit0 (k := 6) Try.underlying33 Try.inf34).mono (fun _ _ h => cvo (by simp) (by simp) h))
     · intro ax tx hs okx sm
       exact run_plain rfl (y_move (kp (sm 2 rfl) hs q123))
     intro a20 s18 D13
     have ok19 := D13.ok
     have F21 := F20.step0 D13.stp
     have q128 : At (Ty.nat k) s18 a20 (.tmp 10) := D13.kt q120 rfl
     have q129 : At (Ty.nat n) s18 a20 (.tmp 0) := D13.kt q121 rfl
     have q130 : At (Ty.lst Ty.ints cs) s18 a20 (.tmp 1) := D13.kt q122 rfl
     have q131 : At (Ty.lst Ty.ints rows) s18 a20 (.tmp 2) := D13.kt q123 rfl
     have q132 : At (Ty.lst Ty.int path) s18 a20 (.tmp 3) := D13.kt q124 rfl
     have q133 : At (Ty.lst Ty.int (byL r (cs.getD k []))) s18 a20 (.tmp 11) := D13.kt q125 rfl
     have q134 : At (Ty.lst Ty.int (path ++ [((k : Nat) : Int)])) s18 a20 (.tmp 12) := D13.kt q126 rfl
     have q135 : At (Ty.nat n) s18 a20 (.tmp 53) := D13.done 0 (by decide)
     have q136 : At (Ty.lst Ty.ints cs) s18 a20 (.tmp 54) := D13.done 1 (by decide)
     obtain ⟨x4, hx4⟩ : ∃ x, a20.eval (.tmp 55) = x := ⟨_, rfl⟩
     have q137 : At (Ty.val x4) s18 a20 (.tmp 55) := hx4
     have o15 : Own s18 6 34 1 x4 0 (List.map Ty.ints ([] : List (List Int))) := al2 (R := (Pr.own 6 34 1 0 (List.map Ty.ints ([] : List (List Int))))) hx4 (D13.done 2 (by decide))
     have q138 : At (Ty.lst Ty.ints rows) s18 a20 (.tmp 56) := D13.done 3 (by decide)
     clear D13
     refine tailL (L := [6]) (R := (fun v τ => Own τ 6 34 1 v (0 + (List.length rows)) ((List.map Ty.ints ([] : List (List Int))) ++ (List.map Ty.ints rows)))) rfl rfl (by decide) ok19 (YldM.toL (m_append Try.underlying33 Try.inf34 (by decide) rfl (by decide) (al (R := (Pr.own 6 34 1 0 (List.map Ty.ints ([] : List (List Int))))) q137 o15) q138 (by intro U hU; simp at hU; obtain ⟨_, _, rfl⟩ := hU; exact one_sl) (by omega) (by omega))) (fun a21 s19 hs6 ok20 r6 sm6 => ?_)
     have F22 := F21.stepL hs6 (by decide)
     have q139 : At (Ty.nat k) s19 a21 (.tmp 10) := kpL hs6 (by decide) (sm6 10 (by decide)) q128
     have q140 : At (Ty.nat n) s19 a21 (.tmp 0) := kpL hs6 (by decide) (sm6 0 (by decide)) q129
     have q141 : At (Ty.lst Ty.ints cs) s19 a21 (.tmp 1) := kpL hs6 (by decide) (sm6 1 (by decide)) q130
     have q142 : At (Ty.lst Ty.ints rows) s19 a21 (.tmp 2) := kpL hs6 (by decide) (sm6 2 (by decide)) q131
     have q143 : At (Ty.lst Ty.int path) s19 a21 (.tmp 3) := kpL hs6 (by decide) (sm6 3 (by decide)) q132
     have q144 : At (Ty.lst Ty.int (byL r (cs.getD k []))) s19 a21 (.tmp 11) := kpL hs6 (by decide) (sm6 11 (by decide)) q133
     have q145 : At (Ty.lst Ty.int (path ++ [((k : Nat) : Int)])) s19 a21 (.tmp 12) := kpL hs6 (by decide) (sm6 12 (by decide)) q134
     have q146 : At (Ty.nat n) s19 a21 (.tmp 53) := kpL hs6 (by decide) (sm6 53 (by decide)) q135
     have q147 : At (Ty.lst Ty.ints cs) s19 a21 (.tmp 54) := kpL hs6 (by decide) (sm6 54 (by decide)) q136
     obtain ⟨x5, hx5⟩ : ∃ x, a21.eval (.tmp 57) = x := ⟨_, rfl⟩
     have q148 : At (Ty.val x5) s19 a21 (.tmp 57) := hx5
     have o16 : Own s19 6 34 1 x5 (List.length rows) (List.map Ty.ints rows) := al2 (R := (Pr.own 6 34 1 (List.length rows) (List.map Ty.ints rows))) hx5 (cvo (by simp) (by first | (rw [List.map_append]; rfl) | simp) r6)
     clear r6
     refine tailL (L := []) (R := (fun v τ => Pr.has (Ty.pr (Ty.lst Ty.int (byL r (cs.getD k [])))) τ v)) rfl rfl (by decide) ok20 (Yld.toL (y_move q144)) (fun a22 s20 hs7 ok21 r7 sm7 => ?_)
     have F23 := F22.stepL hs7 (by decide)
     have q149 : At (Ty.nat k) s20 a22 (.tmp 10) := kpL hs7 (by decide) (sm7 10 (by decide)) q139
     have q150 : At (Ty.nat n) s20 a22 (.tmp 0) := kpL hs7 (by decide) (sm7 0 (by decide)) q140
     have q151 : At (Ty.lst Ty.ints cs) s20 a22 (.tmp 1) := kpL hs7 (by decide) (sm7 1 (by decide)) q141
     have q152 : At (Ty.lst Ty.ints rows) s20 a22 (.tmp 2) := kpL hs7 (by decide) (sm7 2 (by decide)) q142
     have q153 : At (Ty.lst Ty.int path) s20 a22 (.tmp 3) := kpL hs7 (by decide) (sm7 3 (by decide)) q143
     have q154 : At (Ty.lst Ty.int (path ++ [((k : Nat) : Int)])) s20 a22 (.tmp 12) := kpL hs7 (by decide) (sm7 12 (by decide)) q145
     have q155 : At (Ty.nat n) s20 a22 (.tmp 53) := kpL hs7 (by decide) (sm7 53 (by decide)) q146
     have q156 : At (Ty.lst Ty.ints cs) s20 a22 (.tmp 54) := kpL hs7 (by decide) (sm7 54 (by decide)) q147
     have q157 : At (Ty.val x5) s20 a22 (.tmp 57) := kpL hs7 (by decide) (sm7 57 (by decide)) q148
     have o17 := Own.keepL o16 hs7 (by decide) (by decide)
     have q158 : At (Ty.lst Ty.int (byL r (cs.getD k []))) s20 a22 (.tmp 58) := r7
     clear r7
     refine tailL (L := []) (R := (fun v τ => Pr.has (Ty.pr (Ty.sl 1 1 [(Ty.lst Ty.int (byL r (cs.getD k [])))])) τ v)) rfl rfl (by decide) ok21 (Yld.toL (y_build1o Try.underlying33 Try.inf34 rfl (one_sl) q158)) (fun a23 s21 hs8 ok22 r8 sm8 => ?_)
     have F24 := F23.stepL hs8 (by decide)
     have q159 : At (Ty.nat k) s21 a23 (.tmp 10) := kpL hs8 (by decide) (sm8 10 (by decide)) q149
     have q160 : At (Ty.nat n) s21 a23 (.tmp 0) := kpL hs8 (by decide) (sm8 0 (by decide)) q150
     have q161 : At (Ty.lst Ty.ints cs) s21 a23 (.tmp 1) := kpL hs8 (by decide) (sm8 1 (by decide)) q151
     have q162 : At (Ty.lst Ty.ints rows) s21 a23 (.tmp 2) := kpL hs8 (by decide) (sm8 2 (by decide)) q152
     have q163 : At (Ty.lst Ty.int path) s21 a23 (.tmp 3) := kpL hs8 (by decide) (sm8 3 (by decide)) q153
     have q164 : At (Ty.lst Ty.int (path ++ [((k : Nat) : Int)])) s21 a23 (.tmp 12) := kpL hs8 (by decide) (sm8 12 (by decide)) q154
     have q165 : At (Ty.nat n) s21 a23 (.tmp 53) := kpL hs8 (by decide) (sm8 53 (by decide)) q155
     have q166 : At (Ty.lst Ty.ints cs) s21 a23 (.tmp 54) := kpL hs8 (by decide) (sm8 54 (by decide)) q156
     have q167 : At (Ty.val x5) s21 a23 (.tmp 57) := kpL hs8 (by decide) (sm8 57 (by decide)) q157
     have o18 := Own.keepL o17 hs8 (by decide) (by decide)
     have q168 : At (Ty.sl 1 1 [(Ty.lst Ty.int (byL r (cs.getD k [])))]) s21 a23 (.tmp 59) := r8
     clear r8
     refine tailL (L := [6]) (R := (fun v τ => Own τ 6 34 1 v ((List.length rows) + 1) ((List.map Ty.ints rows) ++ [(Ty.lst Ty.int (byL r (cs.getD k [])))]))) rfl rfl (by decide) ok22 (YldM.toL (m_append Try.underlying33 Try.inf34 (by decide) rfl (by decide) (al (R := (Pr.own 6 34 1 (List.length rows) (List.map Ty.ints rows))) q167 o18) q168 (by intro U hU; simp at hU; subst hU; exact one_sl) (by omega) (by omega))) (fun a24 s22 hs9 ok23 r9 sm9 => ?_)
     have F25 := F24.stepL hs9 (by decide)
     have q169 : At (Ty.nat k) s22 a24 (.tmp 10) := kpL hs9 (by decide) (sm9 10 (by decide)) q159
     have q170 : At (Ty.nat n) s22 a24 (.tmp 0) := kpL hs9 (by decide) (sm9 0 (by decide)) q160
     have q171 : At (Ty.lst Ty.ints cs) s22 a24 (.tmp 1) := kpL hs9 (by decide) (sm9 1 (by decide)) q161
     have q172 : At (Ty.lst Ty.ints rows) s22 a24 (.tmp 2) := kpL hs9 (by decide) (sm9 2 (by decide)) q162
     have q173 : At (Ty.lst Ty.int path) s22 a24 (.tmp 3) := kpL hs9 (by decide) (sm9 3 (by decide)) q163
     have q174 : At (Ty.lst Ty.int (path ++ [((k : Nat) : Int)])) s22 a24 (.tmp 12) := kpL hs9 (by decide) (sm9 12 (by decide)) q164
     have q175 : At (Ty.nat n) s22 a24 (.tmp 53) := kpL hs9 (by decide) (sm9 53 (by decide)) q165
     have q176 : At (Ty.lst Ty.ints cs) s22 a24 (.tmp 54) := kpL hs9 (by decide) (sm9 54 (by decide)) q166
     obtain ⟨x6, hx6⟩ : ∃ x, a24.eval (.tmp 60) = x := ⟨_, rfl⟩
     have q177 : At (Ty.val x6) s22 a24 (.tmp 60) := hx6
     have o19 : Own s22 6 34 1 x6 (List.length (rows ++ [(byL r (cs.getD k []))])) (List.map Ty.ints (rows ++ [(byL r (cs.getD k []))])) := al2 (R := (Pr.own 6 34 1 (List.length (rows ++ [(byL r (cs.getD k []))])) (List.map Ty.ints (rows ++ [(byL r (cs.getD k []))])))) hx6 (cvo (by simp) (by first | (rw [List.map_append]; rfl) | simp) r9)
     clear r9
     refine tailL (L := []) (R := (fun v τ => Pr.has (Ty.pr (Ty.lst Ty.int (path ++ [((k : Nat) : Int)]))) τ v)) rfl rfl (by decide) ok23 (Yld.toL (y_move q174)) (fun a25 s23 hs10 ok24 r10 sm10 => ?_)
     have F26 := F25.stepL hs10 (by decide)
     have q178 : At (Ty.nat k) s23 a25 (.tmp 10) := kpL hs10 (by decide) (sm10 10 (by decide)) q169
     have q179 : At (Ty.nat n) s23 a25 (.tmp 0) := kpL hs10 (by decide) (sm10 0 (by decide)) q170
     have q180 : At (Ty.lst Ty.ints cs) s23 a25 (.tmp 1) := kpL hs10 (by decide) (sm10 1 (by decide)) q171
     have q181 : At (Ty.lst Ty.ints rows) s23 a25 (.tmp 2) := kpL hs10 (by decide) (sm10 2 (by decide)) q172
     have q182 : At (Ty.lst Ty.int path) s23 a25 (.tmp 3) := kpL hs10 (by decide) (sm10 3 (by decide)) q173
     have q183 : At (Ty.nat n) s23 a25 (.tmp 53) := kpL hs10 (by decide) (sm10 53 (by decide)) q175
     have q184 : At (Ty.lst Ty.ints cs) s23 a25 (.tmp 54) := kpL hs10 (by decide) (sm10 54 (by decide)) q176
     have q185 : At (Ty.val x6) s23 a25 (.tmp 60) := kpL hs10 (by decide) (sm10 60 (by decide)) q177
     have o20 := Own.keepL o19 hs10 (by decide) (by decide)
     have q186 : At (Ty.lst Ty.int (path ++ [((k : Nat) : Int)])) s23 a25 (.tmp 61) := r10
     clear r10
     obtain ⟨t5, e3, h3, q187⟩ := Own.seal o20 (by decide)
     rw [← e3]
     have F27 := F26.step h3 (by decide)
     have q188 := Ty.up (Ty.nat k) (h3.le (by decide)) q178
     have q189 := Ty.up (Ty.nat n) (h3.le (by decide)) q179
     have q190 := Ty.up (Ty.lst Ty.ints cs) (h3.le (by decide)) q180
     have q191 := Ty.up (Ty.lst Ty.ints rows) (h3.le (by decide)) q181
     have q192 := Ty.up (Ty.lst Ty.int path) (h3.le (by decide)) q182
     have q193 := Ty.up (Ty.nat n) (h3.le (by decide)) q183
     have q194 := Ty.up (Ty.lst Ty.ints cs) (h3.le (by decide)) q184
     have q195 : At (Ty.lst Ty.ints (rows ++ [(byL r (cs.getD k []))])) t5 a25 (.tmp 60) := by have e : a25.eval (.tmp 60) = x6 := q185; show Ty.has _ _ _; rw [e]; exact q187
     have q196 := Ty.up (Ty.lst Ty.int (path ++ [((k : Nat) : Int)])) (h3.le (by decide)) q186
     refine tailL (L := []) (R := (fun v τ => Pr.has (Ty.pr (Ty.tup2 (Ty.lst Ty.int ((circF cs (fct n) (f) ((rows ++ [(byL r (cs.getD k []))])) ((path ++ [((k : Nat) : Int)]))).getD [])) (Ty.bool (circF cs (fct n) (f) ((rows ++ [(byL r (cs.getD k []))])) ((path ++ [((k : Nat) : Int)]))).isSome))) τ v)) rfl rfl (by decide) ok24 (Yld.toL (y_call #[a25.eval (.tmp 53), a25.eval (.tmp 54), a25.eval (.tmp 60), a25.eval (.tmp 61)] Try.func23 rfl rfl (by simp only [List.map_toArray, List.map_cons, List.map_nil]) (ih (f) (by omega) (n) (cs) ((rows ++ [(byL r (cs.getD k []))])) ((path ++ [((k : Nat) : Int)])) (_) _ _ _ _ _ q193 q194 q195 q196 (by first | omega | assumption | (simp only [List.length_append, List.length_cons, List.length_nil]; omega)) (by first | omega | assumption | (simp only [List.length_append, List.length_cons, List.length_nil]; omega))))) (fun a26 s24 hs11 ok25 r11 sm11 => ?_)
     have F28 := F27.stepL hs11 (by decide)
     have q197 : At (Ty.nat k) s24 a26 (.tmp 10) := kpL hs11 (by decide) (sm11 10 (by decide)) q188
     have q198 : At (Ty.nat n) s24 a26 (.tmp 0) := kpL hs11 (by decide) (sm11 0 (by decide)) q189
     have q199 : At (Ty.lst Ty.ints cs) s24 a26 (.tmp 1) := kpL hs11 (by decide) (sm11 1 (by decide)) q190
     have q200 : At (Ty.lst Ty.ints rows) s24 a26 (.tmp 2) := kpL hs11 (by decide) (sm11 2 (by decide)) q191
     have q201 : At (Ty.lst Ty.int path) s24 a26 (.tmp 3) := kpL hs11 (by decide) (sm11 3 (by decide)) q192
     have q202 : At (Ty.tup2 (Ty.lst Ty.int ((circF cs (fct n) (f) ((rows ++ [(byL r (cs.getD k []))])) ((path ++ [((k : Nat) : Int)]))).getD [])) (Ty.bool (circF cs (fct n) (f) ((rows ++ [(byL r (cs.getD k []))])) ((path ++ [((k : Nat) : Int)]))).isSome)) s24 a26 (.tmp 62) := r11
     clear r11
     refine tailL (L := []) (R := (fun v τ => Pr.has (Ty.pr (Ty.tup2 (Ty.lst Ty.int ((circF cs (fct n) (f) ((rows ++ [(byL r (cs.getD k []))])) ((path ++ [((k : Nat) : Int)]))).getD [])) (Ty.bool (circF cs (fct n) (f) ((rows ++ [(byL r (cs.getD k []))])) ((path ++ [((k : Nat) : Int)]))).isSome))) τ v)) rfl rfl (by decide) ok25 (Yld.toL (y_move q202)) (fun a27 s25 hs12 ok26 r12 sm12 => ?_)
     have F29 := F28.stepL hs12 (by decide)
     have q203 : At (Ty.nat k) s25 a27 (.tmp 10) := kpL hs12 (by decide) (sm12 10 (by decide)) q197
     have q204 : At (Ty.nat n) s25 a27 (.tmp 0) := kpL hs12 (by decide) (sm12 0 (by decide)) q198
     have q205 : At (Ty.lst Ty.ints cs) s25 a27 (.tmp 1) := kpL hs12 (by decide) (sm12 1 (by decide)) q199
     have q206 : At (Ty.lst Ty.ints rows) s25 a27 (.tmp 2) := kpL hs12 (by decide) (sm12 2 (by decide)) q200
     have q207 : At (Ty.lst Ty.int path) s25 a27 (.tmp 3) := kpL hs12 (by decide) (sm12 3 (by decide)) q201
     have q208 : At (Ty.tup2 (Ty.lst Ty.int ((circF cs (fct n) (f) ((rows ++ [(byL r (cs.getD k []))])) ((path ++ [((k : Nat) : Int)]))).getD [])) (Ty.bool (circF cs (fct n) (f) ((rows ++ [(byL r (cs.getD k []))])) ((path ++ [((k : Nat) : Int)]))).isSome)) s25 a27 (.tmp 52) := r12
     clear r12
     refine tailL (L := []) (R := (fun v τ => Pr.has (Ty.pr (Ty.lst Ty.int ((circF cs (fct n) (f) ((rows ++ [(byL r (cs.getD k []))])) ((path ++ [((k : Nat) : Int)]))).getD []))) τ v)) rfl rfl (by decide) ok26 (Yld.toL (y_ext2_0 q208)) (fun a28 s26 hs13 ok27 r13 sm13 => ?_)
     have F30 := F29.stepL hs13 (by decide)
     have q209 : At (Ty.nat k) s26 a28 (.tmp 10) := kpL hs13 (by decide) (sm13 10 (by decide)) q203
     have q210 : At (Ty.nat n) s26 a28 (.tmp 0) := kpL hs13 (by decide) (sm13 0 (by decide)) q204
     have q211 : At (Ty.lst Ty.ints cs) s26 a28 (.tmp 1) := kpL hs13 (by decide) (sm13 1 (by decide)) q205
     have q212 : At (Ty.lst Ty.ints rows) s26 a28 (.tmp 2) := kpL hs13 (by decide) (sm13 2 (by decide)) q206
     have q213 : At (Ty.lst Ty.int path) s26 a28 (.tmp 3) := kpL hs13 (by decide) (sm13 3 (by decide)) q207
     have q214 : At (Ty.tup2 (Ty.lst Ty.int ((circF cs (fct n) (f) ((rows ++ [(byL r (cs.getD k []))])) ((path ++ [((k : Nat) : Int)]))).getD [])) (Ty.bool (circF cs (fct n) (f) ((rows ++ [(byL r (cs.getD k []))])) ((path ++ [((k : Nat) : Int)]))).isSome)) s26 a28 (.tmp 52) := kpL hs13 (by decide) (sm13 52 (by decide)) q208
     have q215 : At (Ty.lst Ty.int ((circF cs (fct n) (f) ((rows ++ [(byL r (cs.getD k []))])) ((path ++ [((k : Nat) : Int)]))).getD [])) s26 a28 (.tmp 63) := r13
     clear r13
     refine tailL (L := []) (R := (fun v τ => Pr.has (Ty.pr (Ty.bool (circF cs (fct n) (f) ((rows ++ [(byL r (cs.getD k []))])) ((path ++ [((k : Nat) : Int)]))).isSome)) τ v)) rfl rfl (by decide) ok27 (Yld.toL (y_ext2_1 q214)) (fun a29 s27 hs14 ok28 r14 sm14 => ?_)
     have F31 := F30.stepL hs14 (by decide)
     have q216 : At (Ty.nat k) s27 a29 (.tmp 10) := kpL hs14 (by decide) (sm14 10 (by decide)) q209
     have q217 : At (Ty.nat n) s27 a29 (.tmp 0) := kpL hs14 (by decide) (sm14 0 (by decide)) q210
     have q218 : At (Ty.lst Ty.ints cs) s27 a29 (.tmp 1) := kpL hs14 (by decide) (sm14 1 (by decide)) q211
     have q219 : At (Ty.lst Ty.ints rows) s27 a29 (.tmp 2) := kpL hs14 (by decide) (sm14 2 (by decide)) q212
     have q220 : At (Ty.lst Ty.int path) s27 a29 (.tmp 3) := kpL hs14 (by decide) (sm14 3 (by decide)) q213
     have q221 : At (Ty.lst Ty.int ((circF cs (fct n) (f) ((rows ++ [(byL r (cs.getD k []))])) ((path ++ [((k : Nat) : Int)]))).getD [])) s27 a29 (.tmp 63) := kpL hs14 (by decide) (sm14 63 (by decide)) q215
     have q222 : At (Ty.bool (circF cs (fct n) (f) ((rows ++ [(byL r (cs.getD k []))])) ((path ++ [((k : Nat) : Int)]))).isSome) s27 a29 (.tmp 64) := r14
     clear r14
     refine tailL (L := []) (R := (fun v τ => Pr.has (Ty.pr (Ty.lst Ty.int ((circF cs (fct n) (f) ((rows ++ [(byL r (cs.getD k []))])) ((path ++ [((k : Nat) : Int)]))).getD []))) τ v)) rfl rfl (by decide) ok28 (Yld.toL (y_assign q221)) (fun a30 s28 hs15 ok29 r15 sm15 => ?_)
     have F32 := F31.stepL hs15 (by decide)
     have q223 : At (Ty.nat k) s28 a30 (.tmp 10) := kpL hs15 (by decide) (sm15 10 (by decide)) q216
     have q224 : At (Ty.nat n) s28 a30 (.tmp 0) := kpL hs15 (by decide) (sm15 0 (by decide)) q217
     have q225 : At (Ty.lst Ty.ints cs) s28 a30 (.tmp 1) := kpL hs15 (by decide) (sm15 1 (by decide)) q218
     have q226 : At (Ty.lst Ty.ints rows) s28 a30 (.tmp 2) := kpL hs15 (by decide) (sm15 2 (by decide)) q219
     have q227 : At (Ty.lst Ty.int path) s28 a30 (.tmp 3) := kpL hs15 (by decide) (sm15 3 (by decide)) q220
     have q228 : At (Ty.bool (circF cs (fct n) (f) ((rows ++ [(byL r (cs.getD k []))])) ((path ++ [((k : Nat) : Int)]))).isSome) s28 a30 (.tmp 64) := kpL hs15 (by decide) (sm15 64 (by decide)) q222
     have q229 : At (Ty.lst Ty.int ((circF cs (fct n) (f) ((rows ++ [(byL r (cs.getD k []))])) ((path ++ [((k : Nat) : Int)]))).getD [])) s28 a30 (.tmp 14) := r15
     clear r15
     refine tailL (L := []) (R := (fun v τ => Pr.has (Ty.pr (Ty.bool (circF cs (fct n) (f) ((rows ++ [(byL r (cs.getD k []))])) ((path ++ [((k : Nat) : Int)]))).isSome)) τ v)) rfl rfl (by decide) ok29 (Yld.toL (y_assign q228)) (fun a31 s29 hs16 ok30 r16 sm16 => ?_)
     have F33 := F32.stepL hs16 (by decide)
     have q230 : At (Ty.nat k) s29 a31 (.tmp 10) := kpL hs16 (by decide) (sm16 10 (by decide)) q223
     have q231 : At (Ty.nat n) s29 a31 (.tmp 0) := kpL hs16 (by decide) (sm16 0 (by decide)) q224
     have q232 : At (Ty.lst Ty.ints cs) s29 a31 (.tmp 1) := kpL hs16 (by decide) (sm16 1 (by decide)) q225
     have q233 : At (Ty.lst Ty.ints rows) s29 a31 (.tmp 2) := kpL hs16 (by decide) (sm16 2 (by decide)) q226
     have q234 : At (Ty.lst Ty.int path) s29 a31 (.tmp 3) := kpL hs16 (by decide) (sm16 3 (by decide)) q227
     have q235 : At (Ty.lst Ty.int ((circF cs (fct n) (f) ((rows ++ [(byL r (cs.getD k []))])) ((path ++ [((k : Nat) : Int)]))).getD [])) s29 a31 (.tmp 14) := kpL hs16 (by decide) (sm16 14 (by decide)) q229
     have q236 : At (Ty.bool (circF cs (fct n) (f) ((rows ++ [(byL r (cs.getD k []))])) ((path ++ [((k : Nat) : Int)]))).isSome) s29 a31 (.tmp 15) := r16
     clear r16
     refine wpList_nil ?_
     refine tn ?_
     refine wp_seq ?_
     refine reg (a := a31) (σ := s29) rfl (fun i_ => List.getD [(Ty.pr (Ty.bool (circF cs (fct n) (f) ((rows ++ [(byL r (cs.getD k []))])) ((path ++ [((k : Nat) : Int)]))).isSome))] i_ Pr.any) ok30 rfl ⟨?_, trivial⟩ ?_
     · intro ax tx hs okx sm
       exact run_plain rfl (y_move (kp (sm 15 rfl) hs q236))
     intro a32 s30 D14
     have ok31 := D14.ok
     have F34 := F33.step0 D14.stp
     have q237 : At (Ty.nat k) s30 a32 (.tmp 10) := D14.kt q230 rfl
     have q238 : At (Ty.nat n) s30 a32 (.tmp 0) := D14.kt q231 rfl
     have q239 : At (Ty.lst Ty.ints cs) s30 a32 (.tmp 1) := D14.kt q232 rfl
     have q240 : At (Ty.lst Ty.ints rows) s30 a32 (.tmp 2) := D14.kt q233 rfl
     have q241 : At (Ty.lst Ty.int path) s30 a32 (.tmp 3) := D14.kt q234 rfl
     have q242 : At (Ty.lst Ty.int ((circF cs (fct n) (f) ((rows ++ [(byL r (cs.getD k []))])) ((path ++ [((k : Nat) : Int)]))).getD [])) s30 a32 (.tmp 14) := D14.kt q235 rfl
     have q243 : At (Ty.bool (circF cs (fct n) (f) ((rows ++ [(byL r (cs.getD k []))])) ((path ++ [((k : Nat) : Int)]))).isSome) s30 a32 (.tmp 65) := D14.done 0
     clear D14
     refine tn ?_
     refine cond_t q243 (fun c5 => ?_) (fun c5 => ?_)
     ·
      refine wp_seq ?_
      refine reg (a := a32) (σ := s30) rfl (fun i_ => List.getD [(Ty.pr (Ty.lst Ty.int ((circF cs (fct n) (f) ((rows ++ [(byL r (cs.getD k []))])) ((path ++ [((k : Nat) : Int)]))).getD []))), (Ty.pr (Ty.lst Ty.int ((circF cs (fct n) (f) ((rows ++ [(byL r (cs.getD k []))])) ((path ++ [((k : Nat) : Int)]))).getD []))), (Ty.pr (Ty.bool true))] i_ Pr.any) ok31 rfl ⟨?_, ?_, ?_, trivial⟩ ?_
      · intro ax tx hs okx sm
        exact run_plain rfl (y_move (kp (sm 14 rfl) hs q242))
      · intro ax tx hs okx sm d0 d1
        have e0 : At (Ty.lst Ty.int ((circF cs (fct n) (f) ((rows ++ [(byL r (cs.getD k []))])) ((path ++ [((k : Nat) : Int)]))).getD [])) tx ax (.tmp 66) := d0 rfl
        exact run_plain rfl (y_assign e0)
      · intro ax tx hs okx sm d0 d1 d2
        have e1 : At (Ty.lst Ty.int ((circF cs (fct n) (f) ((rows ++ [(byL r (cs.getD k []))])) ((path ++ [((k : Nat) : Int)]))).getD [])) tx ax (.tmp 8) := d0 rfl
        have e0 : At (Ty.lst Ty.int ((circF cs (fct n) (f) ((rows ++ [(byL r (cs.getD k []))])) ((path ++ [((k : Nat) : Int)]))).getD [])) tx ax (.tmp 66) := d1 rfl
        exact run_plain rfl (y_assign rfl)
      intro a33 s31 D15
      have ok32 := D15.ok
      have F35 := F34.step0 D15.stp
      have q244 : At (Ty.lst Ty.int ((circF cs (fct n) (f) ((rows ++ [(byL r (cs.getD k []))])) ((path ++ [((k : Nat) : Int)]))).getD [])) s31 a33 (.tmp 8) := D15.done 1
      have q245 : At (Ty.bool true) s31 a33 (.tmp 9) := D15.done 2
      clear D15
      refine tn ?_
      refine wp_ret ?_
      refine br ?_
      refine tr ?_
      refine tr ?_
      refine br ?_
      refine tr ?_
      exact retL2 rfl ok32 F35 (hasT2 (cvt (by (obtain ⟨p, hp⟩ := Option.isSome_iff_exists.1 c5; rw [circ_found hno (by omega) ((circK_on ht.last hpn hxn).trans hp), hp])) q244) (cvb (by (obtain ⟨p, hp⟩ := Option.isSome_iff_exists.1 c5; rw [circ_found hno (by omega) ((circK_on ht.last hpn hxn).trans hp)]; rfl)) q245))
     ·
      refine wp_skip ?_
      refine bn ?_
      refine tn ?_
      refine reg (a := a32) (σ := s30) rfl (fun i_ => List.getD [(Ty.pr (Ty.nat k)), (Ty.pr (Ty.nat (k + 1))), (Ty.pr (Ty.nat (k + 1)))] i_ Pr.any) ok31 rfl ⟨?_, ?_, ?_, trivial⟩ ?_
      · intro ax tx hs okx sm
        exact run_plain rfl (y_move (kp (sm 10 rfl) hs q237))
      · intro ax tx hs okx sm d0
        have e0 : At (Ty.nat k) tx ax (.tmp 20) := d0 rfl
        exact run_plain rfl ((y_add e0 rfl (w64 (by omega) (by omega))).mono (fun τ _ h => cvi (σ := τ) (by first | omega | exact (Int.natCast_mul _ _).symm) h))
      · intro ax tx hs okx sm d0 d1 d2
        have e1 : At (Ty.nat (k + 1)) tx ax (.tmp 21) := d0 rfl
        have e0 : At (Ty.nat k) tx ax (.tmp 20) := d1 rfl
        exact run_plain rfl (y_assign e1)
      intro a34 s32 D16
      have ok33 := D16.ok
      have F36 := F34.step0 D16.stp
      have q246 : At (Ty.nat n) s32 a34 (.tmp 0) := D16.kt q238 rfl
      have q247 : At (Ty.lst Ty.ints cs) s32 a34 (.tmp 1) := D16.kt q239 rfl
      have q248 : At (Ty.lst Ty.ints rows) s32 a34 (.tmp 2) := D16.kt q240 rfl
      have q249 : At (Ty.lst Ty.int path) s32 a34 (.tmp 3) := D16.kt q241 rfl
      have q250 : At (Ty.nat (k + 1)) s32 a34 (.tmp 10) := D16.done 2
      clear D16
      exact tn ⟨cs.length - ((k+1)), by omega, s32, (k+1), rfl, F36, ok33, (cvi (by (first | rfl | omega | (simp_all; done) | (simp_all; omega))) q250), q246, q247, q248, q249, by omega, no_snoc hno ((circK_on ht.last hpn hxn).trans (opt_nof c5)), rfl⟩
  ·
   refine wp_exit ?_
   refine tx ?_
   refine tx ?_
   refine bx ?_
   refine tn ?_
   refine wp_seq ?_
   refine reg (a := a5) (σ := s3) rfl (fun i_ => List.getD [(Ty.pr (Ty.val (Value.slice none 0 0))), (Ty.pr (Ty.bool false))] i_ Pr.any) ok4 rfl ⟨?_, ?_, trivial⟩ ?_
   · intro ax tx hs okx sm
     exact run_plain rfl (y_assign rfl)
   · intro ax tx hs okx sm d0 d1
     have e0 : At (Ty.val (Value.slice none 0 0)) tx ax (.tmp 8) := d0 rfl
     exact run_plain rfl (y_assign rfl)
   intro a35 s33 D17
   have ok34 := D17.ok
   have F37 := F4.step0 D17.stp
   have q251 : At (Ty.val (Value.slice none 0 0)) s33 a35 (.tmp 8) := D17.done 0
   have q252 : At (Ty.bool false) s33 a35 (.tmp 9) := D17.done 1
   clear D17
   refine tn ?_
   refine wp_ret ?_
   exact retL2 rfl ok34 F37 (hasT2 (nil_lst (by (rw [circ_none hno (by omega)]; rfl)) q251) (cvb (by (rw [circ_none hno (by omega)]; rfl)) q252))


end Go.Proofs.Ytlhnpkaohfoicaa
