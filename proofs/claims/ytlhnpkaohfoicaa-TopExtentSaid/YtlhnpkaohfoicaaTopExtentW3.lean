/- The functions that the law TopExtent reaches, each by its contract. Part 3. -/
import Derived.Test.YtlhnpkaohfoicaaTopExtentW2
namespace Go.Proofs.Ytlhnpkaohfoicaa
open Go.KL
theorem Try.inf4 : Info Try.prog 4 (.bool false) 1 1 := by unfold Info; kernel_rfl
set_option maxRecDepth 100000 in
theorem rings_fn (n : Nat) (cs : List (List Int)) (p : List Int) (σ : GW)  (v0 v1 v2 : Value) (hv0 : Ty.has (Ty.nat n) σ v0) (hv1 : Ty.has (Ty.lst Ty.ints cs) σ v1) (hv2 : Ty.has (Ty.lst Ty.int p) σ v2)  (hn : 1 ≤ n ∧ n ≤ 12) (hcs : ∀ k, k < cs.length → IsRow (cs.getD k []) ∧ (cs.getD k []).length = n) :
    FnC Try.prog 60 #[v0, v1, v2] σ (Ty.bool (ringsB n cs p)) := by
 refine fn_intro0 Try.func60 rfl Try.ntmps60 (Nat.le_of_ble_eq_true rfl) (fun s0 a0 hle F0 ok0 hargs => ?_)
 have p0 : At (Ty.nat n) s0 a0 (.tmp 0) := by have e := hargs 0 _ rfl; show Ty.has _ _ _; rw [e]; exact Ty.up _ hle hv0
 have p1 : At (Ty.lst Ty.ints cs) s0 a0 (.tmp 1) := by have e := hargs 1 _ rfl; show Ty.has _ _ _; rw [e]; exact Ty.up _ hle hv1
 have b1 := sl_le p1
 have p2 : At (Ty.lst Ty.int p) s0 a0 (.tmp 2) := by have e := hargs 2 _ rfl; show Ty.has _ _ _; rw [e]; exact Ty.up _ hle hv2
 have b2 := sl_le p2
 clear hargs
 refine wp_seq ?_
 refine reg (a := a0) (σ := s0) rfl (fun i_ => List.getD [(Ty.pr (Ty.bool false))] i_ Pr.any) ok0 rfl ⟨?_, trivial⟩ ?_
 · intro ax tx hs okx sm
   exact run_plain rfl (y_assign rfl)
 intro a1 s1 D1
 have ok1 := D1.ok
 have F1 := F0.step0 D1.stp
 have q1 : At (Ty.nat n) s1 a1 (.tmp 0) := D1.kt p0 rfl
 have q2 : At (Ty.lst Ty.ints cs) s1 a1 (.tmp 1) := D1.kt p1 rfl
 have q3 : At (Ty.lst Ty.int p) s1 a1 (.tmp 2) := D1.kt p2 rfl
 clear D1
 refine tn ?_
 refine wp_seq ?_
 refine reg (a := a1) (σ := s1) rfl (fun i_ => List.getD [(Ty.pr (Ty.nat n)), (Ty.pr (Ty.lst Ty.int (roundsL n))), (Ty.pr (Ty.lst Ty.int (roundsL n)))] i_ Pr.any) ok1 rfl ⟨?_, ?_, ?_, trivial⟩ ?_
 · intro ax tx hs okx sm
   exact run_plain rfl (y_move (kp (sm 0 rfl) hs q1))
 · intro ax tx hs okx sm d0
   have e0 : At (Ty.nat n) tx ax (.tmp 10) := d0 rfl
   exact run_plain rfl (y_call #[ax.eval (.tmp 10)] Try.func24 rfl rfl (by simp only [List.map_toArray, List.map_cons, List.map_nil]) (rRounds_fn (n) _ _ e0 (by omega)))
 · intro ax tx hs okx sm d0 d1 d2 d3
   have e1 : At (Ty.lst Ty.int (roundsL n)) tx ax (.tmp 11) := d0 rfl
   have e0 : At (Ty.nat n) tx ax (.tmp 10) := d2 rfl
   exact run_plain rfl (y_assign e1)
 intro a2 s2 D2
 have ok2 := D2.ok
 have F2 := F1.step0 D2.stp
 have q4 : At (Ty.nat n) s2 a2 (.tmp 0) := D2.kt q1 rfl
 have q5 : At (Ty.lst Ty.ints cs) s2 a2 (.tmp 1) := D2.kt q2 rfl
 have q6 : At (Ty.lst Ty.int p) s2 a2 (.tmp 2) := D2.kt q3 rfl
 have q7 : At (Ty.lst Ty.int (roundsL n)) s2 a2 (.tmp 7) := D2.done 2
 clear D2
 refine tn ?_
 refine wp_seq ?_
 refine reg2 (a := a2) (σ := s2) rfl 1 (fun i_ => List.getD [(Pr.ownm Ty.bool kI 5 (fun _ => none : Int → Option Bool))] i_ Pr.any) ok2 rfl (by decide) rfl ⟨?_, trivial⟩ ?_
 · intro ax tx hs okx sm
   exact run_plain rfl (y_makemap 5)
 intro a3 s3 D3
 have ok3 := D3.ok
 have F3 := F2.step0 D3.stp
 have q8 : At (Ty.nat n) s3 a3 (.tmp 0) := D3.kt q4 rfl
 have q9 : At (Ty.lst Ty.ints cs) s3 a3 (.tmp 1) := D3.kt q5 rfl
 have q10 : At (Ty.lst Ty.int p) s3 a3 (.tmp 2) := D3.kt q6 rfl
 have q11 : At (Ty.lst Ty.int (roundsL n)) s3 a3 (.tmp 7) := D3.kt q7 rfl
 obtain ⟨x1, hx1⟩ : ∃ x, a3.eval (.tmp 12) = x := ⟨_, rfl⟩
 have q12 : At (Ty.val x1) s3 a3 (.tmp 12) := hx1
 have o1 : OwnM Ty.bool kI s3 5 x1 (fun _ => none : Int → Option Bool) := al2 (R := (Pr.ownm Ty.bool kI 5 (fun _ => none : Int → Option Bool))) hx1 (D3.done 0 (by decide))
 clear D3
 refine tailL (L := []) (R := (fun v τ => Pr.has (Ty.pr (Ty.val x1)) τ v)) rfl rfl (by decide) ok3 (Yld.toL (y_assign q12)) (fun a4 s4 hs1 ok4 r1 sm1 => ?_)
 have F4 := F3.stepL hs1 (by decide)
 have q13 : At (Ty.nat n) s4 a4 (.tmp 0) := kpL hs1 (by decide) (sm1 0 (by decide)) q8
 have q14 : At (Ty.lst Ty.ints cs) s4 a4 (.tmp 1) := kpL hs1 (by decide) (sm1 1 (by decide)) q9
 have q15 : At (Ty.lst Ty.int p) s4 a4 (.tmp 2) := kpL hs1 (by decide) (sm1 2 (by decide)) q10
 have q16 : At (Ty.lst Ty.int (roundsL n)) s4 a4 (.tmp 7) := kpL hs1 (by decide) (sm1 7 (by decide)) q11
 have o2 := OwnM.keepL o1 hs1 (by decide) (by decide)
 have q17 : At (Ty.val x1) s4 a4 (.tmp 8) := r1
 clear r1
 refine wpList_nil ?_
 refine tn ?_
 refine wp_seq ?_
 refine wp_seq ?_
 refine reg (a := a4) (σ := s4) rfl (fun i_ => List.getD [(Ty.pr (Ty.int (0 : Int)))] i_ Pr.any) ok4 rfl ⟨?_, trivial⟩ ?_
 · intro ax tx hs okx sm
   exact run_plain rfl (y_assign rfl)
 intro a5 s5 D4
 have ok5 := D4.ok
 have F5 := F4.step0 D4.stp
 have q18 : At (Ty.nat n) s5 a5 (.tmp 0) := D4.kt q13 rfl
 have q19 : At (Ty.lst Ty.ints cs) s5 a5 (.tmp 1) := D4.kt q14 rfl
 have q20 : At (Ty.lst Ty.int p) s5 a5 (.tmp 2) := D4.kt q15 rfl
 have q21 : At (Ty.lst Ty.int (roundsL n)) s5 a5 (.tmp 7) := D4.kt q16 rfl
 have q22 : At (Ty.val x1) s5 a5 (.tmp 8) := D4.kt q17 rfl
 have o3 := OwnM.k0 o2 D4.stp
 have q23 : At (Ty.int (0 : Int)) s5 a5 (.tmp 9) := D4.done 0
 clear D4
 refine tn ?_
 refine wp_block ?_
 refine loop (fun n1 a6 w1 => ∃ (t1 : GW) (i : Nat) (vis : List (List Int)) (r : List Int) (fb : Int → Option Bool), t1.w = w1 ∧ FromL [] s0 t1 ∧ Ok 61 a6 ∧ At (Ty.nat i) t1 a6 (.tmp 9) ∧ At (Ty.lst Ty.int r) t1 a6 (.tmp 7) ∧ At (Ty.nat n) t1 a6 (.tmp 0) ∧ At (Ty.lst Ty.ints cs) t1 a6 (.tmp 1) ∧ At (Ty.lst Ty.int p) t1 a6 (.tmp 2) ∧ At (Ty.val x1) t1 a6 (.tmp 8) ∧ OwnM Ty.bool kI t1 5 x1 fb ∧ (i ≤ p.length) ∧ (ringsF cs vis r (p.drop i) = ringsF cs [] (roundsL n) p) ∧ (IsRow r) ∧ (r.length = n) ∧ (SeenB n vis fb) ∧ n1 = p.length - i) (p.length - (0)) ?_ ?_
 ·
  exact ⟨s5, 0, ([] : List (List Int)), (roundsL n), (fun _ => none : Int → Option Bool), rfl, F5, ok5, (cvi (by (first | rfl | omega | (simp_all; done) | (simp_all; omega))) q23), (cvt (by (first | rfl | omega | (simp_all; done) | (simp_all; omega))) q21), q18, q19, q20, q22, (cvm (by (rfl)) o3), by omega, by rw [List.drop_zero], roundsL_row hn.1 hn.2, roundsL_len n, fun x _ _ => by simp, rfl⟩
 ·
  rintro n2 a7 w2 ⟨t2, i, vis, r, fb, rfl, F6, ok6, q24, q25, q26, q27, q28, q29, o4, hi, hv, hr, hrl, hs, rfl⟩
  have hrle := hr.le
  refine wp_seq ?_
  refine wp_seq ?_
  refine reg (a := a7) (σ := t2) rfl (fun i_ => List.getD [(Ty.pr (Ty.nat i)), (Ty.pr (Ty.lst Ty.int p)), (Ty.pr (Ty.nat (List.length p))), (Ty.pr (Ty.bool (decide (((i : Nat) : Int) < (((List.length p) : Nat) : Int)))))] i_ Pr.any) ok6 rfl ⟨?_, ?_, ?_, ?_, trivial⟩ ?_
  · intro ax tx hs okx sm
    exact run_plain rfl (y_move (kp (sm 9 rfl) hs q24))
  · intro ax tx hs okx sm
    exact run_plain rfl (y_move (kp (sm 2 rfl) hs q28))
  · intro ax tx hs okx sm d0
    have e1 : At (Ty.lst Ty.int p) tx ax (.tmp 14) := d0 rfl
    exact run_plain rfl (y_len Try.underlying34 e1)
  · intro ax tx hs okx sm d0 d1
    have e0 : At (Ty.nat i) tx ax (.tmp 13) := d0 rfl
    have e2 : At (Ty.nat (List.length p)) tx ax (.tmp 15) := d1 rfl
    exact run_plain rfl (y_lss e0 e2)
  intro a8 s6 D5
  have ok7 := D5.ok
  have F7 := F6.step0 D5.stp
  have q30 : At (Ty.nat i) s6 a8 (.tmp 9) := D5.kt q24 rfl
  have q31 : At (Ty.lst Ty.int r) s6 a8 (.tmp 7) := D5.kt q25 rfl
  have q32 : At (Ty.nat n) s6 a8 (.tmp 0) := D5.kt q26 rfl
  have q33 : At (Ty.lst Ty.ints cs) s6 a8 (.tmp 1) := D5.kt q27 rfl
  have q34 : At (Ty.lst Ty.int p) s6 a8 (.tmp 2) := D5.kt q28 rfl
  have q35 : At (Ty.val x1) s6 a8 (.tmp 8) := D5.kt q29 rfl
  have o5 := OwnM.k0 o4 D5.stp
  have q36 : At (Ty.bool (decide (((i : Nat) : Int) < (((List.length p) : Nat) : Int)))) s6 a8 (.tmp 16) := D5.done 3
  clear D5
  refine tn ?_
  refine cond_p (p := (((i : Nat) : Int) < (((List.length p) : Nat) : Int))) q36 (fun c1 => ?_) (fun c1 => ?_)
  ·
   refine wp_skip ?_
   refine tn ?_
   refine wp_seq ?_
   refine wp_block ?_
   refine wp_seq ?_
   refine wp_seq ?_
   refine reg (a := a8) (σ := s6) rfl (fun i_ => List.getD [(Ty.pr (Ty.lst Ty.int p)), (Ty.pr (Ty.nat i)), (Ty.pr (Ty.ref [(Ty.int (p.getD i 0))])), (Ty.pr (Ty.int (p.getD i 0))), (Ty.pr (Ty.bool (decide ((p.getD i 0) < (0 : Int))))), (Ty.pr (Ty.bool (decide ((p.getD i 0) < (0 : Int))))), (Ty.pr (Ty.grd ((decide ((p.getD i 0) < (0 : Int))) = false) (Ty.lst Ty.int p))), (Ty.pr (Ty.grd ((decide ((p.getD i 0) < (0 : Int))) = false) (Ty.nat i))), (Ty.pr (Ty.grd ((decide ((p.getD i 0) < (0 : Int))) = false) (Ty.ref [(Ty.int (p.getD i 0))]))), (Ty.pr (Ty.grd ((decide ((p.getD i 0) < (0 : Int))) = false) (Ty.int (p.getD i 0)))), (Ty.pr (Ty.grd ((decide ((p.getD i 0) < (0 : Int))) = false) (Ty.lst Ty.ints cs))), (Ty.pr (Ty.grd ((decide ((p.getD i 0) < (0 : Int))) = false) (Ty.nat (List.length cs)))), (Ty.pr (Ty.grd ((decide ((p.getD i 0) < (0 : Int))) = false) (Ty.bool (decide ((((List.length cs) : Nat) : Int) ≤ (p.getD i 0)))))), (Ty.pr (Ty.bool ((decide ((p.getD i 0) < (0 : Int))) || (decide ((((List.length cs) : Nat) : Int) ≤ (p.getD i 0)))))), (Ty.pr (Ty.bool ((decide ((p.getD i 0) < (0 : Int))) || (decide ((((List.length cs) : Nat) : Int) ≤ (p.getD i 0)))))), (Ty.pr (Ty.grd (((decide ((p.getD i 0) < (0 : Int))) || (decide ((((List.length cs) : Nat) : Int) ≤ (p.getD i 0)))) = false) (Ty.val x1))), (Ty.pr (Ty.grd (((decide ((p.getD i 0) < (0 : Int))) || (decide ((((List.length cs) : Nat) : Int) ≤ (p.getD i 0)))) = false) (Ty.lst Ty.int r))), (Ty.pr (Ty.grd (((decide ((p.getD i 0) < (0 : Int))) || (decide ((((List.length cs) : Nat) : Int) ≤ (p.getD i 0)))) = false) (Ty.nat (rankL r)))), (Ty.pr (Ty.grd (((decide ((p.getD i 0) < (0 : Int))) || (decide ((((List.length cs) : Nat) : Int) ≤ (p.getD i 0)))) = false) (Ty.bool ((fb (((rankL r) : Nat) : Int)).getD false)))), (Ty.pr (Ty.bool (((decide ((p.getD i 0) < (0 : Int))) || (decide ((((List.length cs) : Nat) : Int) ≤ (p.getD i 0)))) || ((fb (((rankL r) : Nat) : Int)).getD false))))] i_ Pr.any) ok7 rfl ⟨?_, ?_, ?_, ?_, ?_, ?_, ?_, ?_, ?_, ?_, ?_, ?_, ?_, ?_, ?_, ?_, ?_, ?_, ?_, ?_, trivial⟩ ?_
   · intro ax tx hs okx sm
     exact run_plain rfl (y_move (kp (sm 2 rfl) hs q34))
   · intro ax tx hs okx sm
     exact run_plain rfl (y_move (kp (sm 9 rfl) hs q30))
   · intro ax tx hs okx sm d0 d1
     have e0 : At (Ty.lst Ty.int p) tx ax (.tmp 19) := d0 rfl
     have e1 : At (Ty.nat i) tx ax (.tmp 20) := d1 rfl
     exact run_plain rfl (y_index1 Try.underlying34 Try.inf3 e0 e1 (by omega) (lst_get Ty.int p 0 i (by omega)))
   · intro ax tx hs okx sm d0
     have e2 : At (Ty.ref [(Ty.int (p.getD i 0))]) tx ax (.tmp 21) := d0 rfl
     exact run_plain rfl (y_load Try.underlying3 rfl e2 rfl)
   · intro ax tx hs okx sm d0
     have e3 : At (Ty.int (p.getD i 0)) tx ax (.tmp 22) := d0 rfl
     exact run_plain rfl (y_lss e3 rfl)
   · intro ax tx hs okx sm d0
     have e4 : At (Ty.bool (decide ((p.getD i 0) < (0 : Int)))) tx ax (.tmp 23) := d0 rfl
     exact run_plain rfl (y_move e4)
   · intro ax tx hs okx sm d0
     have e5 : At (Ty.bool (decide ((p.getD i 0) < (0 : Int)))) tx ax (.tmp 24) := d0 rfl
     refine run_guard (T := (Ty.lst Ty.int p)) okx rfl rfl (by decide) e5 (fun hg => ?_)
     have hp := of_decide_eq_false hg
     exact y_move (kp (sm 2 rfl) hs q34)
   · intro ax tx hs okx sm d0
     have e5 : At (Ty.bool (decide ((p.getD i 0) < (0 : Int)))) tx ax (.tmp 24) := d0 rfl
     refine run_guard (T := (Ty.nat i)) okx rfl rfl (by decide) e5 (fun hg => ?_)
     have hp := of_decide_eq_false hg
     exact y_move (kp (sm 9 rfl) hs q30)
   · intro ax tx hs okx sm d0 d1 d2
     have e6 : At (Ty.grd ((decide ((p.getD i 0) < (0 : Int))) = false) (Ty.lst Ty.int p)) tx ax (.tmp 25) := d0 rfl
     have e7 : At (Ty.grd ((decide ((p.getD i 0) < (0 : Int))) = false) (Ty.nat i)) tx ax (.tmp 26) := d1 rfl
     have e5 : At (Ty.bool (decide ((p.getD i 0) < (0 : Int)))) tx ax (.tmp 24) := d2 rfl
     refine run_guard (T := (Ty.ref [(Ty.int (p.getD i 0))])) okx rfl rfl (by decide) e5 (fun hg => ?_)
     have hp := of_decide_eq_false hg
     exact y_index1 Try.underlying34 Try.inf3 (e6.1 hg) (e7.1 hg) (by omega) (lst_get Ty.int p 0 i (by omega))
   · intro ax tx hs okx sm d0 d1
     have e8 : At (Ty.grd ((decide ((p.getD i 0) < (0 : Int))) = false) (Ty.ref [(Ty.int (p.getD i 0))])) tx ax (.tmp 27) := d0 rfl
     have e5 : At (Ty.bool (decide ((p.getD i 0) < (0 : Int)))) tx ax (.tmp 24) := d1 rfl
     refine run_guard (T := (Ty.int (p.getD i 0))) okx rfl rfl (by decide) e5 (fun hg => ?_)
     have hp := of_decide_eq_false hg
     exact y_load Try.underlying3 rfl (e8.1 hg) rfl
   · intro ax tx hs okx sm d0
     have e5 : At (Ty.bool (decide ((p.getD i 0) < (0 : Int)))) tx ax (.tmp 24) := d0 rfl
     refine run_guard (T := (Ty.lst Ty.ints cs)) okx rfl rfl (by decide) e5 (fun hg => ?_)
     have hp := of_decide_eq_false hg
     exact y_move (kp (sm 1 rfl) hs q33)
   · intro ax tx hs okx sm d0 d1
     have e10 : At (Ty.grd ((decide ((p.getD i 0) < (0 : Int))) = false) (Ty.lst Ty.ints cs)) tx ax (.tmp 29) := d0 rfl
     have e5 : At (Ty.bool (decide ((p.getD i 0) < (0 : Int)))) tx ax (.tmp 24) := d1 rfl
     refine run_guard (T := (Ty.nat (List.length cs))) okx rfl rfl (by decide) e5 (fun hg => ?_)
     have hp := of_decide_eq_false hg
     exact y_len Try.underlying33 (e10.1 hg)
   · intro ax tx hs okx sm d0 d1 d2
     have e9 : At (Ty.grd ((decide ((p.getD i 0) < (0 : Int))) = false) (Ty.int (p.getD i 0))) tx ax (.tmp 28) := d0 rfl
     have e11 : At (Ty.grd ((decide ((p.getD i 0) < (0 : Int))) = false) (Ty.nat (List.length cs))) tx ax (.tmp 30) := d1 rfl
     have e5 : At (Ty.bool (decide ((p.getD i 0) < (0 : Int)))) tx ax (.tmp 24) := d2 rfl
     refine run_guard (T := (Ty.bool (decide ((((List.length cs) : Nat) : Int) ≤ (p.getD i 0))))) okx rfl rfl (by decide) e5 (fun hg => ?_)
     have hp := of_decide_eq_false hg
     exact y_geq (e9.1 hg) (e11.1 hg)
   · intro ax tx hs okx sm d0 d1
     have e5 : At (Ty.bool (decide ((p.getD i 0) < (0 : Int)))) tx ax (.tmp 24) := d0 rfl
     have e12 : At (Ty.grd ((decide ((p.getD i 0) < (0 : Int))) = false) (Ty.bool (decide ((((List.length cs) : Nat) : Int) ≤ (p.getD i 0))))) tx ax (.tmp 31) := d1 rfl
     exact run_plain rfl (y_pick_or e5 rfl e12)
   · intro ax tx hs okx sm d0 d1
     have e13 : At (Ty.bool ((decide ((p.getD i 0) < (0 : Int))) || (decide ((((List.length cs) : Nat) : Int) ≤ (p.getD i 0))))) tx ax (.tmp 32) := d0 rfl
     have e5 : At (Ty.bool (decide ((p.getD i 0) < (0 : Int)))) tx ax (.tmp 24) := d1 rfl
     exact run_plain rfl (y_move e13)
   · intro ax tx hs okx sm d0
     have e14 : At (Ty.bool ((decide ((p.getD i 0) < (0 : Int))) || (decide ((((List.length cs) : Nat) : Int) ≤ (p.getD i 0))))) tx ax (.tmp 33) := d0 rfl
     refine run_guard (T := (Ty.val x1)) okx rfl rfl (by decide) e14 (fun hg => ?_)
     obtain ⟨d1, d2⟩ := Bool.or_eq_false_iff.mp hg
     have d1 := of_decide_eq_false d1
     have d2 := of_decide_eq_false d2
     exact y_move (kp (sm 8 rfl) hs q35)
   · intro ax tx hs okx sm d0
     have e14 : At (Ty.bool ((decide ((p.getD i 0) < (0 : Int))) || (decide ((((List.length cs) : Nat) : Int) ≤ (p.getD i 0))))) tx ax (.tmp 33) := d0 rfl
     refine run_guard (T := (Ty.lst Ty.int r)) okx rfl rfl (by decide) e14 (fun hg => ?_)
     obtain ⟨d3, d4⟩ := Bool.or_eq_false_iff.mp hg
     have d3 := of_decide_eq_false d3
     have d4 := of_decide_eq_false d4
     exact y_move (kp (sm 7 rfl) hs q31)
   · intro ax tx hs okx sm d0 d1 d2
     have e16 : At (Ty.grd (((decide ((p.getD i 0) < (0 : Int))) || (decide ((((List.length cs) : Nat) : Int) ≤ (p.getD i 0)))) = false) (Ty.lst Ty.int r)) tx ax (.tmp 35) := d0 rfl
     have e14 : At (Ty.bool ((decide ((p.getD i 0) < (0 : Int))) || (decide ((((List.length cs) : Nat) : Int) ≤ (p.getD i 0))))) tx ax (.tmp 33) := d1 rfl
     refine run_guard (T := (Ty.nat (rankL r))) okx rfl rfl (by decide) e14 (fun hg => ?_)
     obtain ⟨d5, d6⟩ := Bool.or_eq_false_iff.mp hg
     have d5 := of_decide_eq_false d5
     have d6 := of_decide_eq_false d6
     exact y_call #[ax.eval (.tmp 35)] Try.func47 rfl rfl (by simp only [List.map_toArray, List.map_cons, List.map_nil]) (rRank_fn (r) _ _ (e16.1 hg) (by first | omega | assumption))
   · intro ax tx hs okx sm d0 d1 d2
     have e15 : At (Ty.grd (((decide ((p.getD i 0) < (0 : Int))) || (decide ((((List.length cs) : Nat) : Int) ≤ (p.getD i 0)))) = false) (Ty.val x1)) tx ax (.tmp 34) := d0 rfl
     have e17 : At (Ty.grd (((decide ((p.getD i 0) < (0 : Int))) || (decide ((((List.length cs) : Nat) : Int) ≤ (p.getD i 0)))) = false) (Ty.nat (rankL r))) tx ax (.tmp 36) := d1 rfl
     have e14 : At (Ty.bool ((decide ((p.getD i 0) < (0 : Int))) || (decide ((((List.length cs) : Nat) : Int) ≤ (p.getD i 0))))) tx ax (.tmp 33) := d2 rfl
     refine run_guard (T := (Ty.bool ((fb (((rankL r) : Nat) : Int)).getD false))) okx rfl rfl (by decide) e14 (fun hg => ?_)
     obtain ⟨d7, d8⟩ := Bool.or_eq_false_iff.mp hg
     have d7 := of_decide_eq_false d7
     have d8 := of_decide_eq_false d8
     exact y_lookup (i := (((rankL r) : Nat) : Int)) (z := false) Try.underlying107 (keyInt Try.underlying3) Try.inf4 (fun _ => rfl) (OwnM.k0 o5 hs) (e15.1 hg) (e17.1 hg)
   · intro ax tx hs okx sm d0 d1
     have e14 : At (Ty.bool ((decide ((p.getD i 0) < (0 : Int))) || (decide ((((List.length cs) : Nat) : Int) ≤ (p.getD i 0))))) tx ax (.tmp 33) := d0 rfl
     have e18 : At (Ty.grd (((decide ((p.getD i 0) < (0 : Int))) || (decide ((((List.length cs) : Nat) : Int) ≤ (p.getD i 0)))) = false) (Ty.bool ((fb (((rankL r) : Nat) : Int)).getD false))) tx ax (.tmp 37) := d1 rfl
     exact run_plain rfl (y_pick_or e14 rfl e18)
   intro a9 s7 D6
   have ok8 := D6.ok
   have F8 := F7.step0 D6.stp
   have q37 : At (Ty.nat i) s7 a9 (.tmp 9) := D6.kt q30 rfl
   have q38 : At (Ty.lst Ty.int r) s7 a9 (.tmp 7) := D6.kt q31 rfl
   have q39 : At (Ty.nat n) s7 a9 (.tmp 0) := D6.kt q32 rfl
   have q40 : At (Ty.lst Ty.ints cs) s7 a9 (.tmp 1) := D6.kt q33 rfl
   have q41 : At (Ty.lst Ty.int p) s7 a9 (.tmp 2) := D6.kt q34 rfl
   have q42 : At (Ty.val x1) s7 a9 (.tmp 8) := D6.kt q35 rfl
   have o6 := OwnM.k0 o5 D6.stp
   have q43 : At (Ty.bool (((decide ((p.getD i 0) < (0 : Int))) || (decide ((((List.length cs) : Nat) : Int) ≤ (p.getD i 0)))) || ((fb (((rankL r) : Nat) : Int)).getD false))) s7 a9 (.tmp 38) := D6.done 19
   clear D6
   refine tn ?_
   refine cond_t q43 (fun c2 => ?_) (fun c2 => ?_)
   ·
    refine wp_seq ?_
    refine reg (a := a9) (σ := s7) rfl (fun i_ => List.getD [(Ty.pr (Ty.bool false))] i_ Pr.any) ok8 rfl ⟨?_, trivial⟩ ?_
    · intro ax tx hs okx sm
      exact run_plain rfl (y_assign rfl)
    intro a10 s8 D7
    have ok9 := D7.ok
    have F9 := F8.step0 D7.stp
    have o7 := OwnM.k0 o6 D7.stp
    have q44 : At (Ty.bool false) s8 a10 (.tmp 6) := D7.done 0
    clear D7
    refine tn ?_
    refine wp_ret ?_
    refine tr ?_
    refine br ?_
    refine tr ?_
    refine tr ?_
    refine br ?_
    refine tr ?_
    exact retL1 rfl ok9 F9 (cvb (by (exact (rings_stop hv (by omega) hs hr hrl c2).symm)) q44)
   ·
    obtain ⟨d9, d10⟩ := Bool.or_eq_false_iff.mp c2
    obtain ⟨d11, d12⟩ := Bool.or_eq_false_iff.mp d9
    replace d11 := of_decide_eq_false d11
    replace d12 := of_decide_eq_false d12
    have hon := rings_on hv (by omega) hs hr hrl c2; have hk2 := hcs (p.getD i 0).toNat (by omega); have hkl := hk2.1.le; have hbd : ∀ j, j < (cs.getD (p.getD i 0).toNat []).length → 0 ≤ (cs.getD (p.getD i 0).toNat []).getD j 0 ∧ (cs.getD (p.getD i 0).toNat []).getD j 0 < r.length := (fun j hj => by rw [hrl, ← hk2.2]; exact hk2.1.at hj)
    refine wp_skip ?_
    refine tn ?_
    refine wp_seq ?_
    refine reg2 (a := a9) (σ := s7) rfl 3 (fun i_ => List.getD [(Ty.pr (Ty.val x1)), (Ty.pr (Ty.lst Ty.int r)), (Ty.pr (Ty.nat (rankL r)))] i_ Pr.any) ok8 rfl (by decide) rfl ⟨?_, ?_, ?_, trivial⟩ ?_
    · intro ax tx hs okx sm
      exact run_plain rfl (y_move (kp (sm 8 rfl) hs q42))
    · intro ax tx hs okx sm
      exact run_plain rfl (y_move (kp (sm 7 rfl) hs q38))
    · intro ax tx hs okx sm d0
      have e1 : At (Ty.lst Ty.int r) tx ax (.tmp 40) := d0 rfl
      exact run_plain rfl (y_call #[ax.eval (.tmp 40)] Try.func47 rfl rfl (by simp only [List.map_toArray, List.map_cons, List.map_nil]) (rRank_fn (r) _ _ e1 (by first | omega | assumption)))
    intro a11 s9 D8
    have ok10 := D8.ok
    have F10 := F8.step0 D8.stp
    have q45 : At (Ty.nat i) s9 a11 (.tmp 9) := D8.kt q37 rfl
    have q46 : At (Ty.lst Ty.int r) s9 a11 (.tmp 7) := D8.kt q38 rfl
    have q47 : At (Ty.nat n) s9 a11 (.tmp 0) := D8.kt q39 rfl
    have q48 : At (Ty.lst Ty.ints cs) s9 a11 (.tmp 1) := D8.kt q40 rfl
    have q49 : At (Ty.lst Ty.int p) s9 a11 (.tmp 2) := D8.kt q41 rfl
    have q50 : At (Ty.val x1) s9 a11 (.tmp 8) := D8.kt q42 rfl
    have o8 := OwnM.k0 o6 D8.stp
    have q51 : At (Ty.val x1) s9 a11 (.tmp 39) := D8.done 0 (by decide)
    have q52 : At (Ty.nat (rankL r)) s9 a11 (.tmp 41) := D8.done 2 (by decide)
    clear D8
    refine tailL0 (L := [5]) (R := (fun _ τ => OwnM Ty.bool kI τ 5 x1 (fun x_ => if x_ = (((rankL r) : Nat) : Int) then some true else fb x_))) rfl rfl (YldM.toL (m_mapset (i := (((rankL r) : Nat) : Int)) Try.underlying107 (keyInt Try.underlying3) (by decide) o8 q51 q52 rfl)) (fun v1 s10 hs2 r2 => ?_)
    have F11 := F10.stepL hs2 (by decide)
    have q53 : At (Ty.nat i) s10 a11 (.tmp 9) := kpL hs2 (by decide) rfl q45
    have q54 : At (Ty.lst Ty.int r) s10 a11 (.tmp 7) := kpL hs2 (by decide) rfl q46
    have q55 : At (Ty.nat n) s10 a11 (.tmp 0) := kpL hs2 (by decide) rfl q47
    have q56 : At (Ty.lst Ty.ints cs) s10 a11 (.tmp 1) := kpL hs2 (by decide) rfl q48
    have q57 : At (Ty.lst Ty.int p) s10 a11 (.tmp 2) := kpL hs2 (by decide) rfl q49
    have q58 : At (Ty.val x1) s10 a11 (.tmp 8) := kpL hs2 (by decide) rfl q50
    have o9 : OwnM Ty.bool kI s10 5 x1 (fun x_ => if x_ = (((rankL r) : Nat) : Int) then some true else fb x_) := r2
    clear r2
    refine wpList_nil ?_
    refine tn ?_
    refine reg (a := a11) (σ := s10) rfl (fun i_ => List.getD [(Ty.pr (Ty.lst Ty.int r)), (Ty.pr (Ty.lst Ty.ints cs)), (Ty.pr (Ty.lst Ty.int p)), (Ty.pr (Ty.nat i)), (Ty.pr (Ty.ref [(Ty.int (p.getD i 0))])), (Ty.pr (Ty.int (p.getD i 0))), (Ty.pr (Ty.ref [(Ty.lst Ty.int (cs.getD ((p.getD i 0)).toNat []))])), (Ty.pr (Ty.lst Ty.int (cs.getD ((p.getD i 0)).toNat []))), (Ty.pr (Ty.lst Ty.int (byL (r) ((cs.getD ((p.getD i 0)).toNat []))))), (Ty.pr (Ty.lst Ty.int (byL (r) ((cs.getD ((p.getD i 0)).toNat [])))))] i_ Pr.any) ok10 rfl ⟨?_, ?_, ?_, ?_, ?_, ?_, ?_, ?_, ?_, ?_, trivial⟩ ?_
    · intro ax tx hs okx sm
      exact run_plain rfl (y_move (kp (sm 7 rfl) hs q54))
    · intro ax tx hs okx sm
      exact run_plain rfl (y_move (kp (sm 1 rfl) hs q56))
    · intro ax tx hs okx sm
      exact run_plain rfl (y_move (kp (sm 2 rfl) hs q57))
    · intro ax tx hs okx sm
      exact run_plain rfl (y_move (kp (sm 9 rfl) hs q53))
    · intro ax tx hs okx sm d0 d1
      have e2 : At (Ty.lst Ty.int p) tx ax (.tmp 44) := d0 rfl
      have e3 : At (Ty.nat i) tx ax (.tmp 45) := d1 rfl
      exact run_plain rfl (y_index1 Try.underlying34 Try.inf3 e2 e3 (by omega) (lst_get Ty.int p 0 i (by omega)))
    · intro ax tx hs okx sm d0
      have e4 : At (Ty.ref [(Ty.int (p.getD i 0))]) tx ax (.tmp 46) := d0 rfl
      exact run_plain rfl (y_load Try.underlying3 rfl e4 rfl)
    · intro ax tx hs okx sm d0 d1
      have e1 : At (Ty.lst Ty.ints cs) tx ax (.tmp 43) := d0 rfl
      have e5 : At (Ty.int (p.getD i 0)) tx ax (.tmp 47) := d1 rfl
      exact run_plain rfl (y_index1 Try.underlying33 Try.inf34 e1 e5 (by omega) (lst_get Ty.ints cs [] ((p.getD i 0)).toNat (by omega)))
    · intro ax tx hs okx sm d0
      have e6 : At (Ty.ref [(Ty.lst Ty.int (cs.getD ((p.getD i 0)).toNat []))]) tx ax (.tmp 48) := d0 rfl
      exact run_plain rfl (y_load Try.underlying34 rfl e6 rfl)
    · intro ax tx hs okx sm d0 d1
      have e0 : At (Ty.lst Ty.int r) tx ax (.tmp 42) := d0 rfl
      have e7 : At (Ty.lst Ty.int (cs.getD ((p.getD i 0)).toNat [])) tx ax (.tmp 49) := d1 rfl
      exact run_plain rfl (y_call #[ax.eval (.tmp 42), ax.eval (.tmp 49)] Try.func51 rfl rfl (by simp only [List.map_toArray, List.map_cons, List.map_nil]) (rBy_fn (r) ((cs.getD ((p.getD i 0)).toNat [])) _ _ _ e0 e7 (by first | assumption | omega) (by first | assumption | omega)))
    · intro ax tx hs okx sm d0 d1 d2 d3 d4 d5 d6 d7 d8 d9 d10
      have e8 : At (Ty.lst Ty.int (byL (r) ((cs.getD ((p.getD i 0)).toNat [])))) tx ax (.tmp 50) := d0 rfl
      have e0 : At (Ty.lst Ty.int r) tx ax (.tmp 42) := d2 rfl
      have e1 : At (Ty.lst Ty.ints cs) tx ax (.tmp 43) := d3 rfl
      have e2 : At (Ty.lst Ty.int p) tx ax (.tmp 44) := d4 rfl
      have e3 : At (Ty.nat i) tx ax (.tmp 45) := d5 rfl
      have e4 : At (Ty.ref [(Ty.int (p.getD i 0))]) tx ax (.tmp 46) := d6 rfl
      have e5 : At (Ty.int (p.getD i 0)) tx ax (.tmp 47) := d7 rfl
      have e6 : At (Ty.ref [(Ty.lst Ty.int (cs.getD ((p.getD i 0)).toNat []))]) tx ax (.tmp 48) := d8 rfl
      have e7 : At (Ty.lst Ty.int (cs.getD ((p.getD i 0)).toNat [])) tx ax (.tmp 49) := d9 rfl
      exact run_plain rfl (y_assign e8)
    intro a12 s11 D9
    have ok11 := D9.ok
    have F12 := F11.step0 D9.stp
    have q60 : At (Ty.nat i) s11 a12 (.tmp 9) := D9.kt q53 rfl
    have q61 : At (Ty.nat n) s11 a12 (.tmp 0) := D9.kt q55 rfl
    have q62 : At (Ty.lst Ty.ints cs) s11 a12 (.tmp 1) := D9.kt q56 rfl
    have q63 : At (Ty.lst Ty.int p) s11 a12 (.tmp 2) := D9.kt q57 rfl
    have q64 : At (Ty.val x1) s11 a12 (.tmp 8) := D9.kt q58 rfl
    have o10 := OwnM.k0 o9 D9.stp
    have q65 : At (Ty.lst Ty.int (byL (r) ((cs.getD ((p.getD i 0)).toNat [])))) s11 a12 (.tmp 7) := D9.done 9
    clear D9
    refine bn ?_
    refine tn ?_
    refine reg (a := a12) (σ := s11) rfl (fun i_ => List.getD [(Ty.pr (Ty.nat i)), (Ty.pr (Ty.int (((i : Nat) : Int) + (1 : Int)))), (Ty.pr (Ty.int (((i : Nat) : Int) + (1 : Int))))] i_ Pr.any) ok11 rfl ⟨?_, ?_, ?_, trivial⟩ ?_
    · intro ax tx hs okx sm
      exact run_plain rfl (y_move (kp (sm 9 rfl) hs q60))
    · intro ax tx hs okx sm d0
      have e0 : At (Ty.nat i) tx ax (.tmp 17) := d0 rfl
      exact run_plain rfl (y_add e0 rfl (w64 (by omega) (by omega)))
    · intro ax tx hs okx sm d0 d1 d2
      have e1 : At (Ty.int (((i : Nat) : Int) + (1 : Int))) tx ax (.tmp 18) := d0 rfl
      have e0 : At (Ty.nat i) tx ax (.tmp 17) := d1 rfl
      exact run_plain rfl (y_assign e1)
    intro a13 s12 D10
    have ok12 := D10.ok
    have F13 := F12.step0 D10.stp
    have q66 : At (Ty.nat n) s12 a13 (.tmp 0) := D10.kt q61 rfl
    have q67 : At (Ty.lst Ty.ints cs) s12 a13 (.tmp 1) := D10.kt q62 rfl
    have q68 : At (Ty.lst Ty.int p) s12 a13 (.tmp 2) := D10.kt q63 rfl
    have q69 : At (Ty.val x1) s12 a13 (.tmp 8) := D10.kt q64 rfl
    have q70 : At (Ty.lst Ty.int (byL (r) ((cs.getD ((p.getD i 0)).toNat [])))) s12 a13 (.tmp 7) := D10.kt q65 rfl
    have o11 := OwnM.k0 o10 D10.stp
    have q71 : At (Ty.int (((i : Nat) : Int) + (1 : Int))) s12 a13 (.tmp 9) := D10.done 2
    clear D10
    exact tn ⟨p.length - ((i+1)), by omega, s12, (i+1), (vis ++ [r]), (byL r (cs.getD (p.getD i 0).toNat [])), (fun x_ => if x_ = ((rankL r : Nat) : Int) then some true else fb x_), rfl, F13, ok12, (cvi (by (first | rfl | omega | (simp_all; done) | (simp_all; omega))) q71), (cvt (by (first | rfl | omega | (simp_all; done) | (simp_all; omega))) q70), q66, q67, q68, q69, (cvm (by (rfl)) o11), by omega, hon.2, byL_row hr hk2.1 (by omega), (byL_len _ _).trans hk2.2, hs.put hr hrl, rfl⟩
  ·
   refine wp_exit ?_
   refine tx ?_
   refine tx ?_
   refine bx ?_
   refine tn ?_
   refine wp_seq ?_
   refine reg (a := a8) (σ := s6) rfl (fun i_ => List.getD [(Ty.pr (Ty.lst Ty.int p)), (Ty.pr (Ty.nat (List.length p))), (Ty.pr (Ty.nat n)), (Ty.pr (Ty.nat (fct n))), (Ty.pr (Ty.bool (decide ((((List.length p) : Nat) : Int) = (((fct n) : Nat) : Int))))), (Ty.pr (Ty.bool (decide ((((List.length p) : Nat) : Int) = (((fct n) : Nat) : Int))))), (Ty.pr (Ty.grd ((decide ((((List.length p) : Nat) : Int) = (((fct n) : Nat) : Int))) = true) (Ty.lst Ty.int r))), (Ty.pr (Ty.grd ((decide ((((List.length p) : Nat) : Int) = (((fct n) : Nat) : Int))) = true) (Ty.nat (rankL r)))), (Ty.pr (Ty.grd ((decide ((((List.length p) : Nat) : Int) = (((fct n) : Nat) : Int))) = true) (Ty.bool (decide ((((rankL r) : Nat) : Int) = (0 : Int)))))), (Ty.pr (Ty.bool ((decide ((((List.length p) : Nat) : Int) = (((fct n) : Nat) : Int))) && (decide ((((rankL r) : Nat) : Int) = (0 : Int)))))), (Ty.pr (Ty.bool ((decide ((((List.length p) : Nat) : Int) = (((fct n) : Nat) : Int))) && (decide ((((rankL r) : Nat) : Int) = (0 : Int))))))] i_ Pr.any) ok7 rfl ⟨?_, ?_, ?_, ?_, ?_, ?_, ?_, ?_, ?_, ?_, ?_, trivial⟩ ?_
   · intro ax tx hs okx sm
     exact run_plain rfl (y_move (kp (sm 2 rfl) hs q34))
   · intro ax tx hs okx sm d0
     have e0 : At (Ty.lst Ty.int p) tx ax (.tmp 51) := d0 rfl
     exact run_plain rfl (y_len Try.underlying34 e0)
   · intro ax tx hs okx sm
     exact run_plain rfl (y_move (kp (sm 0 rfl) hs q32))
   · intro ax tx hs okx sm d0
     have e2 : At (Ty.nat n) tx ax (.tmp 53) := d0 rfl
     exact run_plain rfl (y_call #[ax.eval (.tmp 53)] Try.func35 rfl rfl (by simp only [List.map_toArray, List.map_cons, List.map_nil]) (rFact_fn (n) (n) _ _ e2 (by omega) (by omega)))
   · intro ax tx hs okx sm d0 d1
     have e1 : At (Ty.nat (List.length p)) tx ax (.tmp 52) := d0 rfl
     have e3 : At (Ty.nat (fct n)) tx ax (.tmp 54) := d1 rfl
     exact run_plain rfl (y_eql e1 e3)
   · intro ax tx hs okx sm d0 d1
     have e4 : At (Ty.bool (decide ((((List.length p) : Nat) : Int) = (((fct n) : Nat) : Int)))) tx ax (.tmp 55) := d0 rfl
     have e3 : At (Ty.nat (fct n)) tx ax (.tmp 54) := d1 rfl
     exact run_plain rfl (y_move e4)
   · intro ax tx hs okx sm d0
     have e5 : At (Ty.bool (decide ((((List.length p) : Nat) : Int) = (((fct n) : Nat) : Int)))) tx ax (.tmp 56) := d0 rfl
     refine run_guard (T := (Ty.lst Ty.int r)) okx rfl rfl (by decide) e5 (fun hg => ?_)
     have hp := of_decide_eq_true hg
     exact y_move (kp (sm 7 rfl) hs q31)
   · intro ax tx hs okx sm d0 d1 d2
     have e6 : At (Ty.grd ((decide ((((List.length p) : Nat) : Int) = (((fct n) : Nat) : Int))) = true) (Ty.lst Ty.int r)) tx ax (.tmp 57) := d0 rfl
     have e5 : At (Ty.bool (decide ((((List.length p) : Nat) : Int) = (((fct n) : Nat) : Int)))) tx ax (.tmp 56) := d1 rfl
     refine run_guard (T := (Ty.nat (rankL r))) okx rfl rfl (by decide) e5 (fun hg => ?_)
     have hp := of_decide_eq_true hg
     exact y_call #[ax.eval (.tmp 57)] Try.func47 rfl rfl (by simp only [List.map_toArray, List.map_cons, List.map_nil]) (rRank_fn (r) _ _ (e6.1 hg) (by first | omega | assumption))
   · intro ax tx hs okx sm d0 d1
     have e7 : At (Ty.grd ((decide ((((List.length p) : Nat) : Int) = (((fct n) : Nat) : Int))) = true) (Ty.nat (rankL r))) tx ax (.tmp 58) := d0 rfl
     have e5 : At (Ty.bool (decide ((((List.length p) : Nat) : Int) = (((fct n) : Nat) : Int)))) tx ax (.tmp 56) := d1 rfl
     refine run_guard (T := (Ty.bool (decide ((((rankL r) : Nat) : Int) = (0 : Int))))) okx rfl rfl (by decide) e5 (fun hg => ?_)
     have hp := of_decide_eq_true hg
     exact y_eql (e7.1 hg) rfl
   · intro ax tx hs okx sm d0 d1
     have e5 : At (Ty.bool (decide ((((List.length p) : Nat) : Int) = (((fct n) : Nat) : Int)))) tx ax (.tmp 56) := d0 rfl
     have e8 : At (Ty.grd ((decide ((((List.length p) : Nat) : Int) = (((fct n) : Nat) : Int))) = true) (Ty.bool (decide ((((rankL r) : Nat) : Int) = (0 : Int))))) tx ax (.tmp 59) := d1 rfl
     exact run_plain rfl (y_pick_and e5 e8 rfl)
   · intro ax tx hs okx sm d0 d1 d2 d3 d4 d5 d6 d7 d8 d9 d10 d11
     have e9 : At (Ty.bool ((decide ((((List.length p) : Nat) : Int) = (((fct n) : Nat) : Int))) && (decide ((((rankL r) : Nat) : Int) = (0 : Int))))) tx ax (.tmp 60) := d0 rfl
     have e7 : At (Ty.grd ((decide ((((List.length p) : Nat) : Int) = (((fct n) : Nat) : Int))) = true) (Ty.nat (rankL r))) tx ax (.tmp 58) := d1 rfl
     have e0 : At (Ty.lst Ty.int p) tx ax (.tmp 51) := d2 rfl
     have e1 : At (Ty.nat (List.length p)) tx ax (.tmp 52) := d3 rfl
     have e2 : At (Ty.nat n) tx ax (.tmp 53) := d4 rfl
     have e3 : At (Ty.nat (fct n)) tx ax (.tmp 54) := d5 rfl
     have e4 : At (Ty.bool (decide ((((List.length p) : Nat) : Int) = (((fct n) : Nat) : Int)))) tx ax (.tmp 55) := d6 rfl
     have e5 : At (Ty.bool (decide ((((List.length p) : Nat) : Int) = (((fct n) : Nat) : Int)))) tx ax (.tmp 56) := d7 rfl
     have e6 : At (Ty.grd ((decide ((((List.length p) : Nat) : Int) = (((fct n) : Nat) : Int))) = true) (Ty.lst Ty.int r)) tx ax (.tmp 57) := d8 rfl
     have e8 : At (Ty.grd ((decide ((((List.length p) : Nat) : Int) = (((fct n) : Nat) : Int))) = true) (Ty.bool (decide ((((rankL r) : Nat) : Int) = (0 : Int))))) tx ax (.tmp 59) := d10 rfl
     exact run_plain rfl (y_assign e9)
   intro a14 s13 D11
   have ok13 := D11.ok
   have F14 := F7.step0 D11.stp
   have o12 := OwnM.k0 o5 D11.stp
   have q72 : At (Ty.bool ((decide ((((List.length p) : Nat) : Int) = (((fct n) : Nat) : Int))) && (decide ((((rankL r) : Nat) : Int) = (0 : Int))))) s13 a14 (.tmp 6) := D11.done 10
   clear D11
   refine tn ?_
   refine wp_ret ?_
   exact retL1 rfl ok13 F14 (cvb (by (exact rings_end hv (by omega))) q72)


set_option maxRecDepth 100000 in
theorem rLeadsOf_fn (raw : List Int) (many : Nat) (calls : Nat) (σ : GW)  (v0 v1 v2 : Value) (hv0 : Ty.has (Ty.lst Ty.int raw) σ v0) (hv1 : Ty.has (Ty.nat many) σ v1) (hv2 : Ty.has (Ty.nat calls) σ v2)  (hm : many ≤ 1000) (hc : 0 < calls) (hr : ∀ k, -9223372036854775808 ≤ rawAt raw k ∧ rawAt raw k ≤ 9223372036854775807) :
    FnC Try.prog 61 #[v0, v1, v2] σ (Ty.lst Ty.int (leadsOf raw many calls)) := by
 refine fn_intro0 Try.func61 rfl Try.ntmps61 (Nat.le_of_ble_eq_true rfl) (fun s0 a0 hle F0 ok0 hargs => ?_)
 have p0 : At (Ty.lst Ty.int raw) s0 a0 (.tmp 0) := by have e := hargs 0 _ rfl; show Ty.has _ _ _; rw [e]; exact Ty.up _ hle hv0
 have b1 := sl_le p0
 have p1 : At (Ty.nat many) s0 a0 (.tmp 1) := by have e := hargs 1 _ rfl; show Ty.has _ _ _; rw [e]; exact Ty.up _ hle hv1
 have p2 : At (Ty.nat calls) s0 a0 (.tmp 2) := by have e := hargs 2 _ rfl; show Ty.has _ _ _; rw [e]; exact Ty.up _ hle hv2
 clear hargs
 refine wp_seq ?_
 refine reg (a := a0) (σ := s0) rfl (fun i_ => List.getD [(Ty.pr (Ty.val (Value.slice none 0 0)))] i_ Pr.any) ok0 rfl ⟨?_, trivial⟩ ?_
 · intro ax tx hs okx sm
   exact run_plain rfl (y_assign rfl)
 intro a1 s1 D1
 have ok1 := D1.ok
 have F1 := F0.step0 D1.stp
 have q1 : At (Ty.lst Ty.int raw) s1 a1 (.tmp 0) := D1.kt p0 rfl
 have q2 : At (Ty.nat many) s1 a1 (.tmp 1) := D1.kt p1 rfl
 have q3 : At (Ty.nat calls) s1 a1 (.tmp 2) := D1.kt p2 rfl
 clear D1
 refine tn ?_
 refine wp_seq ?_
 refine reg (a := a1) (σ := s1) rfl (fun i_ => List.getD [(Ty.pr (Ty.val (Value.slice none 0 0)))] i_ Pr.any) ok1 rfl ⟨?_, trivial⟩ ?_
 · intro ax tx hs okx sm
   exact run_plain rfl (y_assign rfl)
 intro a2 s2 D2
 have ok2 := D2.ok
 have F2 := F1.step0 D2.stp
 have q4 : At (Ty.lst Ty.int raw) s2 a2 (.tmp 0) := D2.kt q1 rfl
 have q5 : At (Ty.nat many) s2 a2 (.tmp 1) := D2.kt q2 rfl
 have q6 : At (Ty.nat calls) s2 a2 (.tmp 2) := D2.kt q3 rfl
 have q7 : At (Ty.val (Value.slice none 0 0)) s2 a2 (.tmp 7) := D2.done 0
 clear D2
 refine tn ?_
 refine wp_seq ?_
 refine wp_seq ?_
 refine reg (a := a2) (σ := s2) rfl (fun i_ => List.getD [(Ty.pr (Ty.int (0 : Int)))] i_ Pr.any) ok2 rfl ⟨?_, trivial⟩ ?_
 · intro ax tx hs okx sm
   exact run_plain rfl (y_assign rfl)
 intro a3 s3 D3
 have ok3 := D3.ok
 have F3 := F2.step0 D3.stp
 have q8 : At (Ty.lst Ty.int raw) s3 a3 (.tmp 0) := D3.kt q4 rfl
 have q9 : At (Ty.nat many) s3 a3 (.tmp 1) := D3.kt q5 rfl
 have q10 : At (Ty.nat calls) s3 a3 (.tmp 2) := D3.kt q6 rfl
 have q11 : At (Ty.val (Value.slice none 0 0)) s3 a3 (.tmp 7) := D3.kt q7 rfl
 have q12 : At (Ty.int (0 : Int)) s3 a3 (.tmp 8) := D3.done 0
 clear D3
 refine tn ?_
 refine wp_block ?_
 have o1 : Own s3 2 3 1 (Value.slice none 0 0) 0 (List.map Ty.int ([] : List Int)) := Own.nil _ _ _ _
 refine loop (fun n1 a4 w1 => ∃ (t1 : GW) (k : Nat) (x7_0 : Value), t1.w = w1 ∧ FromL [] s0 t1 ∧ Ok 23 a4 ∧ At (Ty.nat k) t1 a4 (.tmp 8) ∧ At (Ty.val x7_0) t1 a4 (.tmp 7) ∧ At (Ty.lst Ty.int raw) t1 a4 (.tmp 0) ∧ At (Ty.nat many) t1 a4 (.tmp 1) ∧ At (Ty.nat calls) t1 a4 (.tmp 2) ∧ Own t1 2 3 1 x7_0 (List.length (leadsOf raw k calls)) (List.map Ty.int (leadsOf raw k calls)) ∧ (k ≤ many) ∧ n1 = many - k) (many - (0)) ?_ ?_
 ·
  exact ⟨s3, 0, (Value.slice none 0 0), rfl, F3, ok3, (cvi (by (first | rfl | omega | (simp_all; done) | (simp_all; omega))) q12), q11, q8, q9, q10, (cvo (by (rfl)) (by (rfl)) o1), by omega, rfl⟩
 ·
  rintro n2 a5 w2 ⟨t2, k, x7_0, rfl, F4, ok4, q13, q14, q15, q16, q17, o2, hk, rfl⟩
  have hll := leadsOf_len raw k calls
  have hrk := hr k
  refine wp_seq ?_
  refine wp_seq ?_
  refine reg (a := a5) (σ := t2) rfl (fun i_ => List.getD [(Ty.pr (Ty.nat k)), (Ty.pr (Ty.nat many)), (Ty.pr (Ty.bool (decide (((k : Nat) : Int) < ((many : Nat) : Int)))))] i_ Pr.any) ok4 rfl ⟨?_, ?_, ?_, trivial⟩ ?_
  · intro ax tx hs okx sm
    exact run_plain rfl (y_move (kp (sm 8 rfl) hs q13))
  · intro ax tx hs okx sm
    exact run_plain rfl (y_move (kp (sm 1 rfl) hs q16))
  · intro ax tx hs okx sm d0 d1
    have e0 : At (Ty.nat k) tx ax (.tmp 9) := d0 rfl
    have e1 : At (Ty.nat many) tx ax (.tmp 10) := d1 rfl
    exact run_plain rfl (y_lss e0 e1)
  intro a6 s4 D4
  have ok5 := D4.ok
  have F5 := F4.step0 D4.stp
  have q18 : At (Ty.nat k) s4 a6 (.tmp 8) := D4.kt q13 rfl
  have q19 : At (Ty.val x7_0) s4 a6 (.tmp 7) := D4.kt q14 rfl
  have q20 : At (Ty.lst Ty.int raw) s4 a6 (.tmp 0) := D4.kt q15 rfl
  have q21 : At (Ty.nat many) s4 a6 (.tmp 1) := D4.kt q16 rfl
  have q22 : At (Ty.nat calls) s4 a6 (.tmp 2) := D4.kt q17 rfl
  have o3 := Own.k0 o2 D4.stp
  have q23 : At (Ty.bool (decide (((k : Nat) : Int) < ((many : Nat) : Int)))) s4 a6 (.tmp 11) := D4.done 2
  clear D4
  refine tn ?_
  refine cond_p (p := (((k : Nat) : Int) < ((many : Nat) : Int))) q23 (fun c1 => ?_) (fun c1 => ?_)
  ·
   refine wp_skip ?_
   refine tn ?_
   refine wp_seq ?_
   refine wp_block ?_
   refine reg2 (a := a6) (σ := s4) rfl 7 (fun i_ => List.getD [(Ty.pr (Ty.val x7_0)), (Ty.pr (Ty.lst Ty.int raw)), (Ty.pr (Ty.nat k)), (Ty.pr (Ty.int (rawAt raw k))), (Ty.pr (Ty.nat calls)), (Ty.pr (Ty.nat (pick ((rawAt raw k)) (calls)))), (Ty.pr (Ty.sl 1 1 [(Ty.nat (pick ((rawAt raw k)) (calls)))]))] i_ Pr.any) ok5 rfl (by decide) rfl ⟨?_, ?_, ?_, ?_, ?_, ?_, ?_, trivial⟩ ?_
   · intro ax tx hs okx sm
     exact run_plain rfl (y_move (kp (sm 7 rfl) hs q19))
   · intro ax tx hs okx sm
     exact run_plain rfl (y_move (kp (sm 0 rfl) hs q20))
   · intro ax tx hs okx sm
     exact run_plain rfl (y_move (kp (sm 8 rfl) hs q18))
   · intro ax tx hs okx sm d0 d1
     have e1 : At (Ty.lst Ty.int raw) tx ax (.tmp 15) := d0 rfl
     have e2 : At (Ty.nat k) tx ax (.tmp 16) := d1 rfl
     exact run_plain rfl (y_call #[ax.eval (.tmp 15), ax.eval (.tmp 16)] Try.func59 rfl rfl (by simp only [List.map_toArray, List.map_cons, List.map_nil]) (raw_fn (raw) (k) _ _ _ e1 e2 ))
   · intro ax tx hs okx sm
     exact run_plain rfl (y_move (kp (sm 2 rfl) hs q22))
   · intro ax tx hs okx sm d0 d1 d2
     have e3 : At (Ty.int (rawAt raw k)) tx ax (.tmp 17) := d0 rfl
     have e4 : At (Ty.nat calls) tx ax (.tmp 18) := d1 rfl
     exact run_plain rfl (y_call #[ax.eval (.tmp 17), ax.eval (.tmp 18)] Try.func56 rfl rfl (by simp only [List.map_toArray, List.map_cons, List.map_nil]) (pick_fn ((rawAt raw k)) (calls) _ _ _ (cvi (σ := tx) (by omega) e3) (cvi (σ := tx) (by omega) e4) (by omega) (by omega)))
   · intro ax tx hs okx sm d0
     have e5 : At (Ty.nat (pick ((rawAt raw k)) (calls))) tx ax (.tmp 19) := d0 rfl
     exact run_plain rfl (y_build1o Try.underlying34 Try.inf3 rfl (one_val rfl) e5)
   intro a7 s5 D5
   have ok6 := D5.ok
   have F6 := F5.step0 D5.stp
   have q24 : At (Ty.nat k) s5 a7 (.tmp 8) := D5.kt q18 rfl
   have q25 : At (Ty.val x7_0) s5 a7 (.tmp 7) := D5.kt q19 rfl
   have q26 : At (Ty.lst Ty.int raw) s5 a7 (.tmp 0) := D5.kt q20 rfl
   have q27 : At (Ty.nat many) s5 a7 (.tmp 1) := D5.kt q21 rfl
   have q28 : At (Ty.nat calls) s5 a7 (.tmp 2) := D5.kt q22 rfl
   have o4 := Own.k0 o3 D5.stp
   have q29 : At (Ty.val x7_0) s5 a7 (.tmp 14) := D5.done 0 (by decide)
   have q30 : At (Ty.sl 1 1 [(Ty.nat (pick ((rawAt raw k)) (calls)))]) s5 a7 (.tmp 20) := D5.done 6 (by decide)
   have b2 := sl_le q30
   clear D5
   refine tailL (L := [2]) (R := (fun v τ => Own τ 2 3 1 v ((List.length (leadsOf raw k calls)) + 1) ((List.map Ty.int (leadsOf raw k calls)) ++ [(Ty.nat (pick ((rawAt raw k)) (calls)))]))) rfl rfl (by decide) ok6 (YldM.toL (m_append Try.underlying34 Try.inf3 (by decide) rfl (by decide) (al (R := (Pr.own 2 3 1 (List.length (leadsOf raw k calls)) (List.map Ty.int (leadsOf raw k calls)))) q29 o4) q30 (by intro U hU; simp at hU; subst hU; exact one_val rfl) (by omega) (by omega))) (fun a8 s6 hs1 ok7 r1 sm1 => ?_)
   have F7 := F6.stepL hs1 (by decide)
   have q31 : At (Ty.nat k) s6 a8 (.tmp 8) := kpL hs1 (by decide) (sm1 8 (by decide)) q24
   have q32 : At (Ty.val x7_0) s6 a8 (.tmp 7) := kpL hs1 (by decide) (sm1 7 (by decide)) q25
   have q33 : At (Ty.lst Ty.int raw) s6 a8 (.tmp 0) := kpL hs1 (by decide) (sm1 0 (by decide)) q26
   have q34 : At (Ty.nat many) s6 a8 (.tmp 1) := kpL hs1 (by decide) (sm1 1 (by decide)) q27
   have q35 : At (Ty.nat calls) s6 a8 (.tmp 2) := kpL hs1 (by decide) (sm1 2 (by decide)) q28
   obtain ⟨x1, hx1⟩ : ∃ x, a8.eval (.tmp 21) = x := ⟨_, rfl⟩
   have q36 : At (Ty.val x1) s6 a8 (.tmp 21) := hx1
   have o5 : Own s6 2 3 1 x1 (List.length ((leadsOf raw k calls) ++ [(((pick ((rawAt raw k)) (calls)) : Nat) : Int)])) (List.map Ty.int ((leadsOf raw k calls) ++ [(((pick ((rawAt raw k)) (calls)) : Nat) : Int)])) := al2 (R := (Pr.own 2 3 1 (List.length ((leadsOf raw k calls) ++ [(((pick ((rawAt raw k)) (calls)) : Nat) : Int)])) (List.map Ty.int ((leadsOf raw k calls) ++ [(((pick ((rawAt raw k)) (calls)) : Nat) : Int)])))) hx1 (cvo (by simp) (by first | (rw [List.map_append]; rfl) | simp) r1)
   clear r1
   refine tailL (L := []) (R := (fun v τ => Pr.has (Ty.pr (Ty.val x1)) τ v)) rfl rfl (by decide) ok7 (Yld.toL (y_assign q36)) (fun a9 s7 hs2 ok8 r2 sm2 => ?_)
   have F8 := F7.stepL hs2 (by decide)
   have q37 : At (Ty.nat k) s7 a9 (.tmp 8) := kpL hs2 (by decide) (sm2 8 (by decide)) q31
   have q38 : At (Ty.lst Ty.int raw) s7 a9 (.tmp 0) := kpL hs2 (by decide) (sm2 0 (by decide)) q33
   have q39 : At (Ty.nat many) s7 a9 (.tmp 1) := kpL hs2 (by decide) (sm2 1 (by decide)) q34
   have q40 : At (Ty.nat calls) s7 a9 (.tmp 2) := kpL hs2 (by decide) (sm2 2 (by decide)) q35
   have o6 := Own.keepL o5 hs2 (by decide) (by decide)
   have q41 : At (Ty.val x1) s7 a9 (.tmp 7) := r2
   clear r2
   refine wpList_nil ?_
   refine bn ?_
   refine tn ?_
   refine reg (a := a9) (σ := s7) rfl (fun i_ => List.getD [(Ty.pr (Ty.nat k)), (Ty.pr (Ty.int (((k : Nat) : Int) + (1 : Int)))), (Ty.pr (Ty.int (((k : Nat) : Int) + (1 : Int))))] i_ Pr.any) ok8 rfl ⟨?_, ?_, ?_, trivial⟩ ?_
   · intro ax tx hs okx sm
     exact run_plain rfl (y_move (kp (sm 8 rfl) hs q37))
   · intro ax tx hs okx sm d0
     have e0 : At (Ty.nat k) tx ax (.tmp 12) := d0 rfl
     exact run_plain rfl (y_add e0 rfl (w64 (by omega) (by omega)))
   · intro ax tx hs okx sm d0 d1 d2
     have e1 : At (Ty.int (((k : Nat) : Int) + (1 : Int))) tx ax (.tmp 13) := d0 rfl
     have e0 : At (Ty.nat k) tx ax (.tmp 12) := d1 rfl
     exact run_plain rfl (y_assign e1)
   intro a10 s8 D6
   have ok9 := D6.ok
   have F9 := F8.step0 D6.stp
   have q42 : At (Ty.lst Ty.int raw) s8 a10 (.tmp 0) := D6.kt q38 rfl
   have q43 : At (Ty.nat many) s8 a10 (.tmp 1) := D6.kt q39 rfl
   have q44 : At (Ty.nat calls) s8 a10 (.tmp 2) := D6.kt q40 rfl
   have q45 : At (Ty.val x1) s8 a10 (.tmp 7) := D6.kt q41 rfl
   have o7 := Own.k0 o6 D6.stp
   have q46 : At (Ty.int (((k : Nat) : Int) + (1 : Int))) s8 a10 (.tmp 8) := D6.done 2
   clear D6
   exact tn ⟨many - ((k+1)), by omega, s8, (k+1), x1, rfl, F9, ok9, (cvi (by (first | rfl | omega | (simp_all; done) | (simp_all; omega))) q46), q45, q42, q43, q44, (cvo (by (rw [leadsOf_succ])) (by (rw [leadsOf_succ])) o7), by omega, rfl⟩
  ·
   refine wp_exit ?_
   refine tx ?_
   refine tx ?_
   refine bx ?_
   refine tn ?_
   refine wp_seq ?_
   refine reg (a := a6) (σ := s4) rfl (fun i_ => List.getD [(Ty.pr (Ty.val x7_0)), (Ty.pr (Ty.val x7_0))] i_ Pr.any) ok5 rfl ⟨?_, ?_, trivial⟩ ?_
   · intro ax tx hs okx sm
     exact run_plain rfl (y_move (kp (sm 7 rfl) hs q19))
   · intro ax tx hs okx sm d0 d1
     have e0 : At (Ty.val x7_0) tx ax (.tmp 22) := d0 rfl
     exact run_plain rfl (y_assign e0)
   intro a11 s9 D7
   have ok10 := D7.ok
   have F10 := F5.step0 D7.stp
   have o8 := Own.k0 o3 D7.stp
   have q47 : At (Ty.val x7_0) s9 a11 (.tmp 6) := D7.done 1
   clear D7
   refine tn ?_
   refine wp_ret ?_
   obtain ⟨t3, e1, h1, q48⟩ := Own.seal o8 (by decide)
   rw [← e1]
   have F11 := F10.step h1 (by decide)
   have q49 : At (Ty.lst Ty.int (leadsOf raw k calls)) t3 a11 (.tmp 6) := by have e : a11.eval (.tmp 6) = x7_0 := q47; show Ty.has _ _ _; rw [e]; exact q48
   exact retL1 rfl ok10 F11 (cvt (by (obtain rfl : many = k := (by omega); rfl)) q49)


set_option maxRecDepth 100000 in
theorem rBelow_fn (a : List Int) (b : List Int) (σ : GW)  (v0 v1 : Value) (hv0 : Ty.has (Ty.lst Ty.int a) σ v0) (hv1 : Ty.has (Ty.lst Ty.int b) σ v1)   :
    FnC Try.prog 62 #[v0, v1] σ (Ty.bool (belowL a b)) := by
 refine fn_intro0 Try.func62 rfl Try.ntmps62 (Nat.le_of_ble_eq_true rfl) (fun s0 a0 hle F0 ok0 hargs => ?_)
 have p0 : At (Ty.lst Ty.int a) s0 a0 (.tmp 0) := by have e := hargs 0 _ rfl; show Ty.has _ _ _; rw [e]; exact Ty.up _ hle hv0
 have b1 := sl_le p0
 have p1 : At (Ty.lst Ty.int b) s0 a0 (.tmp 1) := by have e := hargs 1 _ rfl; show Ty.has _ _ _; rw [e]; exact Ty.up _ hle hv1
 have b2 := sl_le p1
 clear hargs
 refine wp_seq ?_
 refine reg (a := a0) (σ := s0) rfl (fun i_ => List.getD [(Ty.pr (Ty.bool false))] i_ Pr.any) ok0 rfl ⟨?_, trivial⟩ ?_
 · intro ax tx hs okx sm
   exact run_plain rfl (y_assign rfl)
 intro a1 s1 D1
 have ok1 := D1.ok
 have F1 := F0.step0 D1.stp
 have q1 : At (Ty.lst Ty.int a) s1 a1 (.tmp 0) := D1.kt p0 rfl
 have q2 : At (Ty.lst Ty.int b) s1 a1 (.tmp 1) := D1.kt p1 rfl
 clear D1
 refine tn ?_
 refine wp_seq ?_
 refine wp_seq ?_
 refine reg (a := a1) (σ := s1) rfl (fun i_ => List.getD [(Ty.pr (Ty.int (0 : Int)))] i_ Pr.any) ok1 rfl ⟨?_, trivial⟩ ?_
 · intro ax tx hs okx sm
   exact run_plain rfl (y_assign rfl)
 intro a2 s2 D2
 have ok2 := D2.ok
 have F2 := F1.step0 D2.stp
 have q3 : At (Ty.lst Ty.int a) s2 a2 (.tmp 0) := D2.kt q1 rfl
 have q4 : At (Ty.lst Ty.int b) s2 a2 (.tmp 1) := D2.kt q2 rfl
 have q5 : At (Ty.int (0 : Int)) s2 a2 (.tmp 5) := D2.done 0
 clear D2
 refine tn ?_
 refine wp_block ?_
 refine loop (fun n1 a3 w1 => ∃ (t1 : GW) (i : Nat), t1.w = w1 ∧ FromL [] s0 t1 ∧ Ok 41 a3 ∧ At (Ty.nat i) t1 a3 (.tmp 5) ∧ At (Ty.lst Ty.int a) t1 a3 (.tmp 0) ∧ At (Ty.lst Ty.int b) t1 a3 (.tmp 1) ∧ (i ≤ a.length) ∧ (i ≤ b.length) ∧ (belowL (a.drop i) (b.drop i) = belowL a b) ∧ n1 = a.length - i) (a.length - (0)) ?_ ?_
 ·
  exact ⟨s2, 0, rfl, F2, ok2, (cvi (by (first | rfl | omega | (simp_all; done) | (simp_all; omega))) q5), q3, q4, by omega, by omega, rfl, rfl⟩
 ·
  rintro n2 a4 w2 ⟨t2, i, rfl, F3, ok3, q6, q7, q8, hi, hi2, hb, rfl⟩
  refine wp_seq ?_
  refine wp_seq ?_
  refine reg (a := a4) (σ := t2) rfl (fun i_ => List.getD [(Ty.pr (Ty.nat i)), (Ty.pr (Ty.lst Ty.int a)), (Ty.pr (Ty.nat (List.length a))), (Ty.pr (Ty.bool (decide (((i : Nat) : Int) < (((List.length a) : Nat) : Int))))), (Ty.pr (Ty.bool (decide (((i : Nat) : Int) < (((List.length a) : Nat) : Int))))), (Ty.pr (Ty.grd ((decide (((i : Nat) : Int) < (((List.length a) : Nat) : Int))) = true) (Ty.nat i))), (Ty.pr (Ty.grd ((decide (((i : Nat) : Int) < (((List.length a) : Nat) : Int))) = true) (Ty.lst Ty.int b))), (Ty.pr (Ty.grd ((decide (((i : Nat) : Int) < (((List.length a) : Nat) : Int))) = true) (Ty.nat (List.length b)))), (Ty.pr (Ty.grd ((decide (((i : Nat) : Int) < (((List.length a) : Nat) : Int))) = true) (Ty.bool (decide (((i : Nat) : Int) < (((List.length b) : Nat) : Int)))))), (Ty.pr (Ty.bool ((decide (((i : Nat) : Int) < (((List.length a) : Nat) : Int))) && (decide (((i : Nat) : Int) < (((List.length b) : Nat) : Int))))))] i_ Pr.any) ok3 rfl ⟨?_, ?_, ?_, ?_, ?_, ?_, ?_, ?_, ?_, ?_, trivial⟩ ?_
  · intro ax tx hs okx sm
    exact run_plain rfl (y_move (kp (sm 5 rfl) hs q6))
  · intro ax tx hs okx sm
    exact run_plain rfl (y_move (kp (sm 0 rfl) hs q7))
  · intro ax tx hs okx sm d0
    have e1 : At (Ty.lst Ty.int a) tx ax (.tmp 7) := d0 rfl
    exact run_plain rfl (y_len Try.underlying34 e1)
  · intro ax tx hs okx sm d0 d1
    have e0 : At (Ty.nat i) tx ax (.tmp 6) := d0 rfl
    have e2 : At (Ty.nat (List.length a)) tx ax (.tmp 8) := d1 rfl
    exact run_plain rfl (y_lss e0 e2)
  · intro ax tx hs okx sm d0
    have e3 : At (Ty.bool (decide (((i : Nat) : Int) < (((List.length a) : Nat) : Int)))) tx ax (.tmp 9) := d0 rfl
    exact run_plain rfl (y_move e3)
  · intro ax tx hs okx sm d0
    have e4 : At (Ty.bool (decide (((i : Nat) : Int) < (((List.length a) : Nat) : Int)))) tx ax (.tmp 10) := d0 rfl
    refine run_guard (T := (Ty.nat i)) okx rfl rfl (by decide) e4 (fun hg => ?_)
    have hp := of_decide_eq_true hg
    exact y_move (kp (sm 5 rfl) hs q6)
  · intro ax tx hs okx sm d0
    have e4 : At (Ty.bool (decide (((i : Nat) : Int) < (((List.length a) : Nat) : Int)))) tx ax (.tmp 10) := d0 rfl
    refine run_guard (T := (Ty.lst Ty.int b)) okx rfl rfl (by decide) e4 (fun hg => ?_)
    have hp := of_decide_eq_true hg
    exact y_move (kp (sm 1 rfl) hs q8)
  · intro ax tx hs okx sm d0 d1
    have e6 : At (Ty.grd ((decide (((i : Nat) : Int) < (((List.length a) : Nat) : Int))) = true) (Ty.lst Ty.int b)) tx ax (.tmp 12) := d0 rfl
    have e4 : At (Ty.bool (decide (((i : Nat) : Int) < (((List.length a) : Nat) : Int)))) tx ax (.tmp 10) := d1 rfl
    refine run_guard (T := (Ty.nat (List.length b))) okx rfl rfl (by decide) e4 (fun hg => ?_)
    have hp := of_decide_eq_true hg
    exact y_len Try.underlying34 (e6.1 hg)
  · intro ax tx hs okx sm d0 d1 d2
    have e5 : At (Ty.grd ((decide (((i : Nat) : Int) < (((List.length a) : Nat) : Int))) = true) (Ty.nat i)) tx ax (.tmp 11) := d0 rfl
    have e7 : At (Ty.grd ((decide (((i : Nat) : Int) < (((List.length a) : Nat) : Int))) = true) (Ty.nat (List.length b))) tx ax (.tmp 13) := d1 rfl
    have e4 : At (Ty.bool (decide (((i : Nat) : Int) < (((List.length a) : Nat) : Int)))) tx ax (.tmp 10) := d2 rfl
    refine run_guard (T := (Ty.bool (decide (((i : Nat) : Int) < (((List.length b) : Nat) : Int))))) okx rfl rfl (by decide) e4 (fun hg => ?_)
    have hp := of_decide_eq_true hg
    exact y_lss (e5.1 hg) (e7.1 hg)
  · intro ax tx hs okx sm d0 d1
    have e4 : At (Ty.bool (decide (((i : Nat) : Int) < (((List.length a) : Nat) : Int)))) tx ax (.tmp 10) := d0 rfl
    have e8 : At (Ty.grd ((decide (((i : Nat) : Int) < (((List.length a) : Nat) : Int))) = true) (Ty.bool (decide (((i : Nat) : Int) < (((List.length b) : Nat) : Int))))) tx ax (.tmp 14) := d1 rfl
    exact run_plain rfl (y_pick_and e4 e8 rfl)
  intro a5 s3 D3
  have ok4 := D3.ok
  have F4 := F3.step0 D3.stp
  have q9 : At (Ty.nat i) s3 a5 (.tmp 5) := D3.kt q6 rfl
  have q10 : At (Ty.lst Ty.int a) s3 a5 (.tmp 0) := D3.kt q7 rfl
  have q11 : At (Ty.lst Ty.int b) s3 a5 (.tmp 1) := D3.kt q8 rfl
  have q12 : At (Ty.bool ((decide (((i : Nat) : Int) < (((List.length a) : Nat) : Int))) && (decide (((i : Nat) : Int) < (((List.length b) : Nat) : Int))))) s3 a5 (.tmp 15) := D3.done 9
  clear D3
  refine tn ?_
  refine cond_t q12 (fun c1 => ?_) (fun c1 => ?_)
  ·
   obtain ⟨d1, d2⟩ := Bool.and_eq_true_iff.mp c1
   replace d1 := of_decide_eq_true d1
   replace d2 := of_decide_eq_true d2
   simp only [Bool.and_eq_true, decide_eq_true_eq] at c1
   refine wp_skip ?_
   refine tn ?_
   refine wp_seq ?_
   refine wp_block ?_
   refine wp_seq ?_
   refine reg (a := a5) (σ := s3) rfl (fun i_ => List.getD [(Ty.pr (Ty.lst Ty.int a)), (Ty.pr (Ty.nat i)), (Ty.pr (Ty.ref [(Ty.int (a.getD i 0))])), (Ty.pr (Ty.int (a.getD i 0))), (Ty.pr (Ty.lst Ty.int b)), (Ty.pr (Ty.nat i)), (Ty.pr (Ty.ref [(Ty.int (b.getD i 0))])), (Ty.pr (Ty.int (b.getD i 0))), (Ty.pr (Ty.bool (decide ((a.getD i 0) ≠ (b.getD i 0)))))] i_ Pr.any) ok4 rfl ⟨?_, ?_, ?_, ?_, ?_, ?_, ?_, ?_, ?_, trivial⟩ ?_
   · intro ax tx hs okx sm
     exact run_plain rfl (y_move (kp (sm 0 rfl) hs q10))
   · intro ax tx hs okx sm
     exact run_plain rfl (y_move (kp (sm 5 rfl) hs q9))
   · intro ax tx hs okx sm d0 d1
     have e0 : At (Ty.lst Ty.int a) tx ax (.tmp 18) := d0 rfl
     have e1 : At (Ty.nat i) tx ax (.tmp 19) := d1 rfl
     exact run_plain rfl (y_index1 Try.underlying34 Try.inf3 e0 e1 (by omega) (lst_get Ty.int a 0 i (by omega)))
   · intro ax tx hs okx sm d0
     have e2 : At (Ty.ref [(Ty.int (a.getD i 0))]) tx ax (.tmp 20) := d0 rfl
     exact run_plain rfl (y_load Try.underlying3 rfl e2 rfl)
   · intro ax tx hs okx sm
     exact run_plain rfl (y_move (kp (sm 1 rfl) hs q11))
   · intro ax tx hs okx sm
     exact run_plain rfl (y_move (kp (sm 5 rfl) hs q9))
   · intro ax tx hs okx sm d0 d1
     have e4 : At (Ty.lst Ty.int b) tx ax (.tmp 22) := d0 rfl
     have e5 : At (Ty.nat i) tx ax (.tmp 23) := d1 rfl
     exact run_plain rfl (y_index1 Try.underlying34 Try.inf3 e4 e5 (by omega) (lst_get Ty.int b 0 i (by omega)))
   · intro ax tx hs okx sm d0
     have e6 : At (Ty.ref [(Ty.int (b.getD i 0))]) tx ax (.tmp 24) := d0 rfl
     exact run_plain rfl (y_load Try.underlying3 rfl e6 rfl)
   · intro ax tx hs okx sm d0 d1
     have e3 : At (Ty.int (a.getD i 0)) tx ax (.tmp 21) := d0 rfl
     have e7 : At (Ty.int (b.getD i 0)) tx ax (.tmp 25) := d1 rfl
     exact run_plain rfl (y_neq e3 e7)
   intro a6 s4 D4
   have ok5 := D4.ok
   have F5 := F4.step0 D4.stp
   have q13 : At (Ty.nat i) s4 a6 (.tmp 5) := D4.kt q9 rfl
   have q14 : At (Ty.lst Ty.int a) s4 a6 (.tmp 0) := D4.kt q10 rfl
   have q15 : At (Ty.lst Ty.int b) s4 a6 (.tmp 1) := D4.kt q11 rfl
   have q16 : At (Ty.bool (decide ((a.getD i 0) ≠ (b.getD i 0)))) s4 a6 (.tmp 26) := D4.done 8
   clear D4
   refine tn ?_
   refine cond_p (p := ((a.getD i 0) ≠ (b.getD i 0))) q16 (fun c2 => ?_) (fun c2 => ?_)
   ·
    refine wp_seq ?_
    refine reg (a := a6) (σ := s4) rfl (fun i_ => List.getD [(Ty.pr (Ty.lst Ty.int a)), (Ty.pr (Ty.nat i)), (Ty.pr (Ty.ref [(Ty.int (a.getD i 0))])), (Ty.pr (Ty.int (a.getD i 0))), (Ty.pr (Ty.lst Ty.int b)), (Ty.pr (Ty.nat i)), (Ty.pr (Ty.ref [(Ty.int (b.getD i 0))])), (Ty.pr (Ty.int (b.getD i 0))), (Ty.pr (Ty.bool (decide ((a.getD i 0) < (b.getD i 0))))), (Ty.pr (Ty.bool (decide ((a.getD i 0) < (b.getD i 0)))))] i_ Pr.any) ok5 rfl ⟨?_, ?_, ?_, ?_, ?_, ?_, ?_, ?_, ?_, ?_, trivial⟩ ?_
    · intro ax tx hs okx sm
      exact run_plain rfl (y_move (kp (sm 0 rfl) hs q14))
    · intro ax tx hs okx sm
      exact run_plain rfl (y_move (kp (sm 5 rfl) hs q13))
    · intro ax tx hs okx sm d0 d1
      have e0 : At (Ty.lst Ty.int a) tx ax (.tmp 27) := d0 rfl
      have e1 : At (Ty.nat i) tx ax (.tmp 28) := d1 rfl
      exact run_plain rfl (y_index1 Try.underlying34 Try.inf3 e0 e1 (by omega) (lst_get Ty.int a 0 i (by omega)))
    · intro ax tx hs okx sm d0
      have e2 : At (Ty.ref [(Ty.int (a.getD i 0))]) tx ax (.tmp 29) := d0 rfl
      exact run_plain rfl (y_load Try.underlying3 rfl e2 rfl)
    · intro ax tx hs okx sm
      exact run_plain rfl (y_move (kp (sm 1 rfl) hs q15))
    · intro ax tx hs okx sm
      exact run_plain rfl (y_move (kp (sm 5 rfl) hs q13))
    · intro ax tx hs okx sm d0 d1
      have e4 : At (Ty.lst Ty.int b) tx ax (.tmp 31) := d0 rfl
      have e5 : At (Ty.nat i) tx ax (.tmp 32) := d1 rfl
      exact run_plain rfl (y_index1 Try.underlying34 Try.inf3 e4 e5 (by omega) (lst_get Ty.int b 0 i (by omega)))
    · intro ax tx hs okx sm d0
      have e6 : At (Ty.ref [(Ty.int (b.getD i 0))]) tx ax (.tmp 33) := d0 rfl
      exact run_plain rfl (y_load Try.underlying3 rfl e6 rfl)
    · intro ax tx hs okx sm d0 d1
      have e3 : At (Ty.int (a.getD i 0)) tx ax (.tmp 30) := d0 rfl
      have e7 : At (Ty.int (b.getD i 0)) tx ax (.tmp 34) := d1 rfl
      exact run_plain rfl (y_lss e3 e7)
    · intro ax tx hs okx sm d0 d1 d2 d3 d4 d5 d6 d7 d8 d9
      have e8 : At (Ty.bool (decide ((a.getD i 0) < (b.getD i 0)))) tx ax (.tmp 35) := d0 rfl
      have e0 : At (Ty.lst Ty.int a) tx ax (.tmp 27) := d1 rfl
      have e1 : At (Ty.nat i) tx ax (.tmp 28) := d2 rfl
      have e2 : At (Ty.ref [(Ty.int (a.getD i 0))]) tx ax (.tmp 29) := d3 rfl
      have e3 : At (Ty.int (a.getD i 0)) tx ax (.tmp 30) := d4 rfl
      have e4 : At (Ty.lst Ty.int b) tx ax (.tmp 31) := d5 rfl
      have e5 : At (Ty.nat i) tx ax (.tmp 32) := d6 rfl
      have e6 : At (Ty.ref [(Ty.int (b.getD i 0))]) tx ax (.tmp 33) := d7 rfl
      have e7 : At (Ty.int (b.getD i 0)) tx ax (.tmp 34) := d8 rfl
      exact run_plain rfl (y_assign e8)
    intro a7 s5 D5
    have ok6 := D5.ok
    have F6 := F5.step0 D5.stp
    have q17 : At (Ty.bool (decide ((a.getD i 0) < (b.getD i 0)))) s5 a7 (.tmp 4) := D5.done 9
    clear D5
    refine tn ?_
    refine wp_ret ?_
    refine br ?_
    refine tr ?_
    refine tr ?_
    refine br ?_
    refine tr ?_
    exact retL1 rfl ok6 F6 (cvb (by (exact below_ne hb (by omega) (by omega) (by assumption))) q17)
   ·
    refine wp_skip ?_
    refine bn ?_
    refine tn ?_
    refine reg (a := a6) (σ := s4) rfl (fun i_ => List.getD [(Ty.pr (Ty.nat i)), (Ty.pr (Ty.int (((i : Nat) : Int) + (1 : Int)))), (Ty.pr (Ty.int (((i : Nat) : Int) + (1 : Int))))] i_ Pr.any) ok5 rfl ⟨?_, ?_, ?_, trivial⟩ ?_
    · intro ax tx hs okx sm
      exact run_plain rfl (y_move (kp (sm 5 rfl) hs q13))
    · intro ax tx hs okx sm d0
      have e0 : At (Ty.nat i) tx ax (.tmp 16) := d0 rfl
      exact run_plain rfl (y_add e0 rfl (w64 (by omega) (by omega)))
    · intro ax tx hs okx sm d0 d1 d2
      have e1 : At (Ty.int (((i : Nat) : Int) + (1 : Int))) tx ax (.tmp 17) := d0 rfl
      have e0 : At (Ty.nat i) tx ax (.tmp 16) := d1 rfl
      exact run_plain rfl (y_assign e1)
    intro a8 s6 D6
    have ok7 := D6.ok
    have F7 := F5.step0 D6.stp
    have q18 : At (Ty.lst Ty.int a) s6 a8 (.tmp 0) := D6.kt q14 rfl
    have q19 : At (Ty.lst Ty.int b) s6 a8 (.tmp 1) := D6.kt q15 rfl
    have q20 : At (Ty.int (((i : Nat) : Int) + (1 : Int))) s6 a8 (.tmp 5) := D6.done 2
    clear D6
    exact tn ⟨a.length - ((i+1)), by omega, s6, (i+1), rfl, F7, ok7, (cvi (by (first | rfl | omega | (simp_all; done) | (simp_all; omega))) q20), q18, q19, by omega, by omega, below_step hb (by omega) (by omega) (by assumption), rfl⟩
  ·
   have hc1 : ¬ (i < a.length ∧ i < b.length) := (by intro h; simp only [Bool.and_eq_false_iff, decide_eq_false_iff_not] at c1; omega)
   refine wp_exit ?_
   refine tx ?_
   refine tx ?_
   refine bx ?_
   refine tn ?_
   refine wp_seq ?_
   refine reg (a := a5) (σ := s3) rfl (fun i_ => List.getD [(Ty.pr (Ty.lst Ty.int a)), (Ty.pr (Ty.nat (List.length a))), (Ty.pr (Ty.lst Ty.int b)), (Ty.pr (Ty.nat (List.length b))), (Ty.pr (Ty.bool (decide ((((List.length a) : Nat) : Int) < (((List.length b) : Nat) : Int))))), (Ty.pr (Ty.bool (decide ((((List.length a) : Nat) : Int) < (((List.length b) : Nat) : Int)))))] i_ Pr.any) ok4 rfl ⟨?_, ?_, ?_, ?_, ?_, ?_, trivial⟩ ?_
   · intro ax tx hs okx sm
     exact run_plain rfl (y_move (kp (sm 0 rfl) hs q10))
   · intro ax tx hs okx sm d0
     have e0 : At (Ty.lst Ty.int a) tx ax (.tmp 36) := d0 rfl
     exact run_plain rfl (y_len Try.underlying34 e0)
   · intro ax tx hs okx sm
     exact run_plain rfl (y_move (kp (sm 1 rfl) hs q11))
   · intro ax tx hs okx sm d0
     have e2 : At (Ty.lst Ty.int b) tx ax (.tmp 38) := d0 rfl
     exact run_plain rfl (y_len Try.underlying34 e2)
   · intro ax tx hs okx sm d0 d1
     have e1 : At (Ty.nat (List.length a)) tx ax (.tmp 37) := d0 rfl
     have e3 : At (Ty.nat (List.length b)) tx ax (.tmp 39) := d1 rfl
     exact run_plain rfl (y_lss e1 e3)
   · intro ax tx hs okx sm d0 d1 d2 d3 d4 d5
     have e4 : At (Ty.bool (decide ((((List.length a) : Nat) : Int) < (((List.length b) : Nat) : Int)))) tx ax (.tmp 40) := d0 rfl
     have e0 : At (Ty.lst Ty.int a) tx ax (.tmp 36) := d1 rfl
     have e1 : At (Ty.nat (List.length a)) tx ax (.tmp 37) := d2 rfl
     have e2 : At (Ty.lst Ty.int b) tx ax (.tmp 38) := d3 rfl
     have e3 : At (Ty.nat (List.length b)) tx ax (.tmp 39) := d4 rfl
     exact run_plain rfl (y_assign e4)
   intro a9 s7 D7
   have ok8 := D7.ok
   have F8 := F4.step0 D7.stp
   have q21 : At (Ty.bool (decide ((((List.length a) : Nat) : Int) < (((List.length b) : Nat) : Int)))) s7 a9 (.tmp 4) := D7.done 5
   clear D7
   refine tn ?_
   refine wp_ret ?_
   exact retL1 rfl ok8 F8 (cvb (by (exact below_end hb (by omega) (by omega) hc1)) q21)


set_option maxRecDepth 100000 in
theorem topExtent_fn (raw : List Int) (n : Int) (many : Int) (guess : List Int) (σ : GW)  (v0 v1 v2 v3 : Value) (hv0 : Ty.has (Ty.lst Ty.int raw) σ v0) (hv1 : Ty.has (Ty.int n) σ v1) (hv2 : Ty.has (Ty.int many) σ v2) (hv3 : Ty.has (Ty.lst Ty.int guess) σ v3)  (hraw : ∀ x ∈ raw, -9223372036854775808 ≤ x ∧ x ≤ 9223372036854775807) (hn : -9223372036854775808 ≤ n ∧ n ≤ 9223372036854775807) (hmany : -9223372036854775808 ≤ many ∧ many ≤ 9223372036854775807) (hg : ∀ x ∈ guess, -9223372036854775808 ≤ x ∧ x ≤ 9223372036854775807) (hlr : raw.length ≤ 281474976710656) (hlg : guess.length ≤ 281474976710656) :
    FnC Try.prog 9 #[v0, v1, v2, v3] σ (Ty.bool true) := by
 have hp4 := pick_lt n (n := 4) (by omega)
 have hk4 := pick_lt many (n := 4) (by omega)
 obtain ⟨M, hM⟩ : ∃ M, M = 1 + pick n 4 := ⟨_, rfl⟩
 obtain ⟨K, hK⟩ : ∃ K, K = pick many 4 := ⟨_, rfl⟩
 have hrb := rawAt_bd hraw
 have hgb := rawAt_bd hg
 have hcm := cirMay_chgs (raw := raw) (n := M) (many := K) (by omega) (by omega) (by omega)
 obtain ⟨O, hO⟩ : ∃ O, O = cirO ((M : Nat) : Int) (chgsL raw M K) := ⟨_, rfl⟩
 have hrf := ring_facts hcm hO
 have hcl := chgsL_len raw M K
 have hf4 := fct_mono (show M ≤ 4 by omega)
 have hf24 : fct 4 = 24 := rfl
 have hnm : 1 ≤ M ∧ M ≤ 12 := by omega
 have hcs : ∀ k, k < (chgsL raw M K).length → IsRow ((chgsL raw M K).getD k []) ∧ ((chgsL raw M K).getD k []).length = M := fun k hk => ⟨(chgsL_row (by omega) (by omega) (by omega)).1, (chgsL_row (by omega) (by omega) (by omega)).2.1⟩
 refine fn_intro0 Try.func9 rfl Try.ntmps9 (Nat.le_of_ble_eq_true rfl) (fun s0 a0 hle F0 ok0 hargs => ?_)
 have p0 : At (Ty.lst Ty.int raw) s0 a0 (.tmp 0) := by have e := hargs 0 _ rfl; show Ty.has _ _ _; rw [e]; exact Ty.up _ hle hv0
 have b1 := sl_le p0
 have p1 : At (Ty.int n) s0 a0 (.tmp 1) := by have e := hargs 1 _ rfl; show Ty.has _ _ _; rw [e]; exact Ty.up _ hle hv1
 have p2 : At (Ty.int many) s0 a0 (.tmp 2) := by have e := hargs 2 _ rfl; show Ty.has _ _ _; rw [e]; exact Ty.up _ hle hv2
 have p3 : At (Ty.lst Ty.int guess) s0 a0 (.tmp 3) := by have e := hargs 3 _ rfl; show Ty.has _ _ _; rw [e]; exact Ty.up _ hle hv3
 have b2 := sl_le p3
 clear hargs
 refine wp_seq ?_
 refine reg (a := a0) (σ := s0) rfl (fun i_ => List.getD [(Ty.pr (Ty.bool false))] i_ Pr.any) ok0 rfl ⟨?_, trivial⟩ ?_
 · intro ax tx hs okx sm
   exact run_plain rfl (y_assign rfl)
 intro a1 s1 D1
 have ok1 := D1.ok
 have F1 := F0.step0 D1.stp
 have q1 : At (Ty.lst Ty.int raw) s1 a1 (.tmp 0) := D1.kt p0 rfl
 have q2 : At (Ty.int n) s1 a1 (.tmp 1) := D1.kt p1 rfl
 have q3 : At (Ty.int many) s1 a1 (.tmp 2) := D1.kt p2 rfl
 have q4 : At (Ty.lst Ty.int guess) s1 a1 (.tmp 3) := D1.kt p3 rfl
 clear D1
 refine tn ?_
 refine wp_seq ?_
 refine wp_seq ?_
 refine reg (a := a1) (σ := s1) rfl (fun i_ => List.getD [(Ty.pr (Ty.lst Ty.int raw)), (Ty.pr (Ty.nat (List.length raw))), (Ty.pr (Ty.lst Ty.int guess)), (Ty.pr (Ty.nat (List.length guess))), (Ty.pr (Ty.nat ((List.length raw) + (List.length guess)))), (Ty.pr (Ty.bool (decide ((256 : Int) < ((((List.length raw) + (List.length guess)) : Nat) : Int)))))] i_ Pr.any) ok1 rfl ⟨?_, ?_, ?_, ?_, ?_, ?_, trivial⟩ ?_
 · intro ax tx hs okx sm
   exact run_plain rfl (y_move (kp (sm 0 rfl) hs q1))
 · intro ax tx hs okx sm d0
   have e0 : At (Ty.lst Ty.int raw) tx ax (.tmp 16) := d0 rfl
   exact run_plain rfl (y_len Try.underlying34 e0)
 · intro ax tx hs okx sm
   exact run_plain rfl (y_move (kp (sm 3 rfl) hs q4))
 · intro ax tx hs okx sm d0
   have e2 : At (Ty.lst Ty.int guess) tx ax (.tmp 18) := d0 rfl
   exact run_plain rfl (y_len Try.underlying34 e2)
 · intro ax tx hs okx sm d0 d1
   have e1 : At (Ty.nat (List.length raw)) tx ax (.tmp 17) := d0 rfl
   have e3 : At (Ty.nat (List.length guess)) tx ax (.tmp 19) := d1 rfl
   exact run_plain rfl ((y_add e1 e3 (w64 (by omega) (by omega))).mono (fun τ _ h => cvi (σ := τ) (by first | omega | exact (Int.natCast_mul _ _).symm) h))
 · intro ax tx hs okx sm d0
   have e4 : At (Ty.nat ((List.length raw) + (List.length guess))) tx ax (.tmp 20) := d0 rfl
   exact run_plain rfl (y_gtr e4 rfl)
 intro a2 s2 D2
 have ok2 := D2.ok
 have F2 := F1.step0 D2.stp
 have q5 : At (Ty.lst Ty.int raw) s2 a2 (.tmp 0) := D2.kt q1 rfl
 have q6 : At (Ty.int n) s2 a2 (.tmp 1) := D2.kt q2 rfl
 have q7 : At (Ty.int many) s2 a2 (.tmp 2) := D2.kt q3 rfl
 have q8 : At (Ty.lst Ty.int guess) s2 a2 (.tmp 3) := D2.kt q4 rfl
 have q9 : At (Ty.bool (decide ((256 : Int) < ((((List.length raw) + (List.length guess)) : Nat) : Int)))) s2 a2 (.tmp 21) := D2.done 5
 clear D2
 refine tn ?_
 refine cond_p (p := ((256 : Int) < ((((List.length raw) + (List.length guess)) : Nat) : Int))) q9 (fun c1 => ?_) (fun c1 => ?_)
 ·
  refine wp_seq ?_
  refine reg (a := a2) (σ := s2) rfl (fun i_ => List.getD [(Ty.pr (Ty.bool true))] i_ Pr.any) ok2 rfl ⟨?_, trivial⟩ ?_
  · intro ax tx hs okx sm
    exact run_plain rfl (y_assign rfl)
  intro a3 s3 D3
  have ok3 := D3.ok
  have F3 := F2.step0 D3.stp
  have q10 : At (Ty.bool true) s3 a3 (.tmp 8) := D3.done 0
  clear D3
  refine tn ?_
  refine wp_ret ?_
  refine tr ?_
  exact retL1 rfl ok3 F3 q10
 ·
  refine wp_skip ?_
  refine tn ?_
  refine wp_seq ?_
  refine reg (a := a2) (σ := s2) rfl (fun i_ => List.getD [(Ty.pr (Ty.int n)), (Ty.pr (Ty.nat (pick (n) (4)))), (Ty.pr (Ty.nat (1 + (pick (n) (4))))), (Ty.pr (Ty.nat (1 + (pick (n) (4)))))] i_ Pr.any) ok2 rfl ⟨?_, ?_, ?_, ?_, trivial⟩ ?_
  · intro ax tx hs okx sm
    exact run_plain rfl (y_move (kp (sm 1 rfl) hs q6))
  · intro ax tx hs okx sm d0
    have e0 : At (Ty.int n) tx ax (.tmp 22) := d0 rfl
    exact run_plain rfl (y_call #[ax.eval (.tmp 22), ax.eval ((Operand.const (Value.int IntKind.i64 4)))] Try.func56 rfl rfl (by simp only [List.map_toArray, List.map_cons, List.map_nil]) (pick_fn (n) (4) _ _ _ (cvi (σ := tx) (by omega) e0) (cvi (σ := tx) (by omega) rfl) (by omega) (by omega)))
  · intro ax tx hs okx sm d0
    have e1 : At (Ty.nat (pick (n) (4))) tx ax (.tmp 23) := d0 rfl
    exact run_plain rfl ((y_add rfl e1 (w64 (by omega) (by omega))).mono (fun τ _ h => cvi (σ := τ) (by first | omega | exact (Int.natCast_mul _ _).symm) h))
  · intro ax tx hs okx sm d0 d1 d2 d3 d4
    have e2 : At (Ty.nat (1 + (pick (n) (4)))) tx ax (.tmp 24) := d0 rfl
    have e1 : At (Ty.nat (pick (n) (4))) tx ax (.tmp 23) := d1 rfl
    have e0 : At (Ty.int n) tx ax (.tmp 22) := d2 rfl
    exact run_plain rfl (y_assign e2)
  intro a4 s4 D4
  have ok4 := D4.ok
  have F4 := F2.step0 D4.stp
  have q11 : At (Ty.lst Ty.int raw) s4 a4 (.tmp 0) := D4.kt q5 rfl
  have q12 : At (Ty.int many) s4 a4 (.tmp 2) := D4.kt q7 rfl
  have q13 : At (Ty.lst Ty.int guess) s4 a4 (.tmp 3) := D4.kt q8 rfl
  have q14 : At (Ty.nat (1 + (pick (n) (4)))) s4 a4 (.tmp 1) := D4.done 3
  clear D4
  have q15 : At (Ty.nat M) s4 a4 (.tmp 1) := (cvi (by (omega)) q14)
  refine tn ?_
  refine wp_seq ?_
  refine reg (a := a4) (σ := s4) rfl (fun i_ => List.getD [(Ty.pr (Ty.val (Value.slice none 0 0)))] i_ Pr.any) ok4 rfl ⟨?_, trivial⟩ ?_
  · intro ax tx hs okx sm
    exact run_plain rfl (y_assign rfl)
  intro a5 s5 D5
  have ok5 := D5.ok
  have F5 := F4.step0 D5.stp
  have q16 : At (Ty.lst Ty.int raw) s5 a5 (.tmp 0) := D5.kt q11 rfl
  have q17 : At (Ty.int many) s5 a5 (.tmp 2) := D5.kt q12 rfl
  have q18 : At (Ty.lst Ty.int guess) s5 a5 (.tmp 3) := D5.kt q13 rfl
  have q19 : At (Ty.nat M) s5 a5 (.tmp 1) := D5.kt q15 rfl
  have q20 : At (Ty.val (Value.slice none 0 0)) s5 a5 (.tmp 9) := D5.done 0
  clear D5
  refine tn ?_
  refine wp_seq ?_
  refine wp_seq ?_
  refine reg (a := a5) (σ := s5) rfl (fun i_ => List.getD [(Ty.pr (Ty.int (0 : Int)))] i_ Pr.any) ok5 rfl ⟨?_, trivial⟩ ?_
  · intro ax tx hs okx sm
    exact run_plain rfl (y_assign rfl)
  intro a6 s6 D6
  have ok6 := D6.ok
  have F6 := F5.step0 D6.stp
  have q21 : At (Ty.lst Ty.int raw) s6 a6 (.tmp 0) := D6.kt q16 rfl
  have q22 : At (Ty.int many) s6 a6 (.tmp 2) := D6.kt q17 rfl
  have q23 : At (Ty.lst Ty.int guess) s6 a6 (.tmp 3) := D6.kt q18 rfl
  have q24 : At (Ty.nat M) s6 a6 (.tmp 1) := D6.kt q19 rfl
  have q25 : At (Ty.val (Value.slice none 0 0)) s6 a6 (.tmp 9) := D6.kt q20 rfl
  have q26 : At (Ty.int (0 : Int)) s6 a6 (.tmp 10) := D6.done 0
  clear D6
  refine tn ?_
  refine wp_block ?_
  have o1 : Own s6 2 34 1 (Value.slice none 0 0) 0 (List.map Ty.ints ([] : List (List Int))) := Own.nil _ _ _ _
  refine loop (fun n1 a7 w1 => ∃ (t1 : GW) (k : Nat) (x9_0 : Value), t1.w = w1 ∧ FromL [] s0 t1 ∧ Ok 95 a7 ∧ At (Ty.nat k) t1 a7 (.tmp 10) ∧ At (Ty.val x9_0) t1 a7 (.tmp 9) ∧ At (Ty.lst Ty.int raw) t1 a7 (.tmp 0) ∧ At (Ty.int many) t1 a7 (.tmp 2) ∧ At (Ty.lst Ty.int guess) t1 a7 (.tmp 3) ∧ At (Ty.nat M) t1 a7 (.tmp 1) ∧ Own t1 2 34 1 x9_0 (List.length (chgsL raw M k)) (List.map Ty.ints (chgsL raw M k)) ∧ (k ≤ K) ∧ n1 = K - k) (K - (0)) ?_ ?_
  ·
   exact ⟨s6, 0, (Value.slice none 0 0), rfl, F6, ok6, (cvi (by (first | rfl | omega | (simp_all; done) | (simp_all; omega))) q26), q25, q21, q22, q23, q24, (cvo (by (rfl)) (by (rfl)) o1), by omega, rfl⟩
  ·
   rintro n2 a8 w2 ⟨t2, k, x9_0, rfl, F7, ok7, q27, q28, q29, q30, q31, q32, o2, hk, rfl⟩
   have hkl := chgsL_len raw M k
   have hrk := hrb k
   refine wp_seq ?_
   refine wp_seq ?_
   refine reg (a := a8) (σ := t2) rfl (fun i_ => List.getD [(Ty.pr (Ty.nat k)), (Ty.pr (Ty.int many)), (Ty.pr (Ty.nat K)), (Ty.pr (Ty.bool (decide (((k : Nat) : Int) < ((K : Nat) : Int)))))] i_ Pr.any) ok7 rfl ⟨?_, ?_, ?_, ?_, trivial⟩ ?_
   · intro ax tx hs okx sm
     exact run_plain rfl (y_move (kp (sm 10 rfl) hs q27))
   · intro ax tx hs okx sm
     exact run_plain rfl (y_move (kp (sm 2 rfl) hs q30))
   · intro ax tx hs okx sm d0
     have e1 : At (Ty.int many) tx ax (.tmp 26) := d0 rfl
     exact run_plain rfl ((y_call #[ax.eval (.tmp 26), ax.eval ((Operand.const (Value.int IntKind.i64 4)))] Try.func56 rfl rfl (by simp only [List.map_toArray, List.map_cons, List.map_nil]) (pick_fn (many) (4) _ _ _ (cvi (σ := tx) (by omega) e1) (cvi (σ := tx) (by omega) rfl) (by omega) (by omega))).mono (fun τ _ h => cvt (σ := τ) (T := (Ty.nat (pick (many) (4)))) (U := (Ty.nat K)) (by rw [hK]) h))
   · intro ax tx hs okx sm d0 d1
     have e0 : At (Ty.nat k) tx ax (.tmp 25) := d0 rfl
     have e2 : At (Ty.nat K) tx ax (.tmp 27) := d1 rfl
     exact run_plain rfl (y_lss e0 e2)
   intro a9 s7 D7
   have ok8 := D7.ok
   have F8 := F7.step0 D7.stp
   have q33 : At (Ty.nat k) s7 a9 (.tmp 10) := D7.kt q27 rfl
   have q34 : At (Ty.val x9_0) s7 a9 (.tmp 9) := D7.kt q28 rfl
   have q35 : At (Ty.lst Ty.int raw) s7 a9 (.tmp 0) := D7.kt q29 rfl
   have q36 : At (Ty.int many) s7 a9 (.tmp 2) := D7.kt q30 rfl
   have q37 : At (Ty.lst Ty.int guess) s7 a9 (.tmp 3) := D7.kt q31 rfl
   have q38 : At (Ty.nat M) s7 a9 (.tmp 1) := D7.kt q32 rfl
   have o3 := Own.k0 o2 D7.stp
   have q39 : At (Ty.bool (decide (((k : Nat) : Int) < ((K : Nat) : Int)))) s7 a9 (.tmp 28) := D7.done 3
   clear D7
   refine tn ?_
   refine cond_p (p := (((k : Nat) : Int) < ((K : Nat) : Int))) q39 (fun c2 => ?_) (fun c2 => ?_)
   ·
    refine wp_skip ?_
    refine tn ?_
    refine wp_seq ?_
    refine wp_block ?_
    refine wp_seq ?_
    refine reg (a := a9) (σ := s7) rfl (fun i_ => List.getD [(Ty.pr (Ty.nat M)), (Ty.pr (Ty.lst Ty.int raw)), (Ty.pr (Ty.nat k)), (Ty.pr (Ty.int (rawAt raw k))), (Ty.pr (Ty.nat M)), (Ty.pr (Ty.lst Ty.int (changeOf ((rawAt raw k)) (M)))), (Ty.pr (Ty.lst Ty.int (chgRow (M) ((changeOf ((rawAt raw k)) (M)))))), (Ty.pr (Ty.lst Ty.int (chgRow (M) ((changeOf ((rawAt raw k)) (M))))))] i_ Pr.any) ok8 rfl ⟨?_, ?_, ?_, ?_, ?_, ?_, ?_, ?_, trivial⟩ ?_
    · intro ax tx hs okx sm
      exact run_plain rfl (y_move (kp (sm 1 rfl) hs q38))
    · intro ax tx hs okx sm
      exact run_plain rfl (y_move (kp (sm 0 rfl) hs q35))
    · intro ax tx hs okx sm
      exact run_plain rfl (y_move (kp (sm 10 rfl) hs q33))
    · intro ax tx hs okx sm d0 d1
      have e1 : At (Ty.lst Ty.int raw) tx ax (.tmp 32) := d0 rfl
      have e2 : At (Ty.nat k) tx ax (.tmp 33) := d1 rfl
      exact run_plain rfl (y_call #[ax.eval (.tmp 32), ax.eval (.tmp 33)] Try.func59 rfl rfl (by simp only [List.map_toArray, List.map_cons, List.map_nil]) (raw_fn (raw) (k) _ _ _ e1 e2 ))
    · intro ax tx hs okx sm
      exact run_plain rfl (y_move (kp (sm 1 rfl) hs q38))
    · intro ax tx hs okx sm d0 d1 d2
      have e3 : At (Ty.int (rawAt raw k)) tx ax (.tmp 34) := d0 rfl
      have e4 : At (Ty.nat M) tx ax (.tmp 35) := d1 rfl
      exact run_plain rfl (y_call #[ax.eval (.tmp 34), ax.eval (.tmp 35)] Try.func58 rfl rfl (by simp only [List.map_toArray, List.map_cons, List.map_nil]) (changeOf_fn ((rawAt raw k)) (M) _ _ _ (cvi (σ := tx) (by omega) e3) (cvi (σ := tx) (by omega) e4) (by omega) (by omega)))
    · intro ax tx hs okx sm d0 d1 d2
      have e0 : At (Ty.nat M) tx ax (.tmp 31) := d0 rfl
      have e5 : At (Ty.lst Ty.int (changeOf ((rawAt raw k)) (M))) tx ax (.tmp 36) := d1 rfl
      exact run_plain rfl (y_call #[ax.eval (.tmp 31), ax.eval (.tmp 36)] Try.func57 rfl rfl (by simp only [List.map_toArray, List.map_cons, List.map_nil]) (rChangeRow_fn (M) ((changeOf ((rawAt raw k)) (M))) _ _ _ (cvi (σ := tx) (by omega) e0) e5 (by omega)))
    · intro ax tx hs okx sm d0 d1 d2 d3 d4 d5 d6 d7 d8
      have e6 : At (Ty.lst Ty.int (chgRow (M) ((changeOf ((rawAt raw k)) (M))))) tx ax (.tmp 37) := d0 rfl
      have e0 : At (Ty.nat M) tx ax (.tmp 31) := d2 rfl
      have e1 : At (Ty.lst Ty.int raw) tx ax (.tmp 32) := d3 rfl
      have e2 : At (Ty.nat k) tx ax (.tmp 33) := d4 rfl
      have e3 : At (Ty.int (rawAt raw k)) tx ax (.tmp 34) := d5 rfl
      have e4 : At (Ty.nat M) tx ax (.tmp 35) := d6 rfl
      have e5 : At (Ty.lst Ty.int (changeOf ((rawAt raw k)) (M))) tx ax (.tmp 36) := d7 rfl
      exact run_plain rfl (y_assign e6)
    intro a10 s8 D8
    have ok9 := D8.ok
    have F9 := F8.step0 D8.stp
    have q40 : At (Ty.nat k) s8 a10 (.tmp 10) := D8.kt q33 rfl
    have q41 : At (Ty.val x9_0) s8 a10 (.tmp 9) := D8.kt q34 rfl
    have q42 : At (Ty.lst Ty.int raw) s8 a10 (.tmp 0) := D8.kt q35 rfl
    have q43 : At (Ty.int many) s8 a10 (.tmp 2) := D8.kt q36 rfl
    have q44 : At (Ty.lst Ty.int guess) s8 a10 (.tmp 3) := D8.kt q37 rfl
    have q45 : At (Ty.nat M) s8 a10 (.tmp 1) := D8.kt q38 rfl
    have o4 := Own.k0 o3 D8.stp
    have q46 : At (Ty.lst Ty.int (chgRow (M) ((changeOf ((rawAt raw k)) (M))))) s8 a10 (.tmp 11) := D8.done 7
    clear D8
    refine tn ?_
    refine reg2 (a := a10) (σ := s8) rfl 3 (fun i_ => List.getD [(Ty.pr (Ty.val x9_0)), (Ty.pr (Ty.lst Ty.int (chgRow (M) ((changeOf ((rawAt raw k)) (M)))))), (Ty.pr (Ty.sl 1 1 [(Ty.lst Ty.int (chgRow (M) ((changeOf ((rawAt raw k)) (M)))))]))] i_ Pr.any) ok9 rfl (by decide) rfl ⟨?_, ?_, ?_, trivial⟩ ?_
    · intro ax tx hs okx sm
      exact run_plain rfl (y_move (kp (sm 9 rfl) hs q41))
    · intro ax tx hs okx sm
      exact run_plain rfl (y_move (kp (sm 11 rfl) hs q46))
    · intro ax tx hs okx sm d0
      have e1 : At (Ty.lst Ty.int (chgRow (M) ((changeOf ((rawAt raw k)) (M))))) tx ax (.tmp 39) := d0 rfl
      exact run_plain rfl (y_build1o Try.underlying33 Try.inf34 rfl (one_sl) e1)
    intro a11 s9 D9
    have ok10 := D9.ok
    have F10 := F9.step0 D9.stp
    have q47 : At (Ty.nat k) s9 a11 (.tmp 10) := D9.kt q40 rfl
    have q48 : At (Ty.val x9_0) s9 a11 (.tmp 9) := D9.kt q41 rfl
    have q49 : At (Ty.lst Ty.int raw) s9 a11 (.tmp 0) := D9.kt q42 rfl
    have q50 : At (Ty.int many) s9 a11 (.tmp 2) := D9.kt q43 rfl
    have q51 : At (Ty.lst Ty.int guess) s9 a11 (.tmp 3) := D9.kt q44 rfl
    have q52 : At (Ty.nat M) s9 a11 (.tmp 1) := D9.kt q45 rfl
    have o5 := Own.k0 o4 D9.stp
    have q53 : At (Ty.val x9_0) s9 a11 (.tmp 38) := D9.done 0 (by decide)
    have q54 : At (Ty.sl 1 1 [(Ty.lst Ty.int (chgRow (M) ((changeOf ((rawAt raw k)) (M)))))]) s9 a11 (.tmp 40) := D9.done 2 (by decide)
    have b3 := sl_le q54
    clear D9
    refine tailL (L := [2]) (R := (fun v τ => Own τ 2 34 1 v ((List.length (chgsL raw M k)) + 1) ((List.map Ty.ints (chgsL raw M k)) ++ [(Ty.lst Ty.int (chgRow (M) ((changeOf ((rawAt raw k)) (M)))))]))) rfl rfl (by decide) ok10 (YldM.toL (m_append Try.underlying33 Try.inf34 (by decide) rfl (by decide) (al (R := (Pr.own 2 34 1 (List.length (chgsL raw M k)) (List.map Ty.ints (chgsL raw M k)))) q53 o5) q54 (by intro U hU; simp at hU; subst hU; exact one_sl) (by omega) (by omega))) (fun a12 s10 hs1 ok11 r1 sm1 => ?_)
    have F11 := F10.stepL hs1 (by decide)
    have q55 : At (Ty.nat k) s10 a12 (.tmp 10) := kpL hs1 (by decide) (sm1 10 (by decide)) q47
    have q56 : At (Ty.val x9_0) s10 a12 (.tmp 9) := kpL hs1 (by decide) (sm1 9 (by decide)) q48
    have q57 : At (Ty.lst Ty.int raw) s10 a12 (.tmp 0) := kpL hs1 (by decide) (sm1 0 (by decide)) q49
    have q58 : At (Ty.int many) s10 a12 (.tmp 2) := kpL hs1 (by decide) (sm1 2 (by decide)) q50
    have q59 : At (Ty.lst Ty.int guess) s10 a12 (.tmp 3) := kpL hs1 (by decide) (sm1 3 (by decide)) q51
    have q60 : At (Ty.nat M) s10 a12 (.tmp 1) := kpL hs1 (by decide) (sm1 1 (by decide)) q52
    obtain ⟨x1, hx1⟩ : ∃ x, a12.eval (.tmp 41) = x := ⟨_, rfl⟩
    have q61 : At (Ty.val x1) s10 a12 (.tmp 41) := hx1
    have o6 : Own s10 2 34 1 x1 (List.length ((chgsL raw M k) ++ [(chgRow (M) ((changeOf ((rawAt raw k)) (M))))])) (List.map Ty.ints ((chgsL raw M k) ++ [(chgRow (M) ((changeOf ((rawAt raw k)) (M))))])) := al2 (R := (Pr.own 2 34 1 (List.length ((chgsL raw M k) ++ [(chgRow (M) ((changeOf ((rawAt raw k)) (M))))])) (List.map Ty.ints ((chgsL raw M k) ++ [(chgRow (M) ((changeOf ((rawAt raw k)) (M))))])))) hx1 (cvo (by simp) (by first | (rw [List.map_append]; rfl) | simp) r1)
    clear r1
    refine tailL (L := []) (R := (fun v τ => Pr.has (Ty.pr (Ty.val x1)) τ v)) rfl rfl (by decide) ok11 (Yld.toL (y_assign q61)) (fun a13 s11 hs2 ok12 r2 sm2 => ?_)
    have F12 := F11.stepL hs2 (by decide)
    have q62 : At (Ty.nat k) s11 a13 (.tmp 10) := kpL hs2 (by decide) (sm2 10 (by decide)) q55
    have q63 : At (Ty.lst Ty.int raw) s11 a13 (.tmp 0) := kpL hs2 (by decide) (sm2 0 (by decide)) q57
    have q64 : At (Ty.int many) s11 a13 (.tmp 2) := kpL hs2 (by decide) (sm2 2 (by decide)) q58
    have q65 : At (Ty.lst Ty.int guess) s11 a13 (.tmp 3) := kpL hs2 (by decide) (sm2 3 (by decide)) q59
    have q66 : At (Ty.nat M) s11 a13 (.tmp 1) := kpL hs2 (by decide) (sm2 1 (by decide)) q60
    have o7 := Own.keepL o6 hs2 (by decide) (by decide)
    have q67 : At (Ty.val x1) s11 a13 (.tmp 9) := r2
    clear r2
    refine wpList_nil ?_
    refine bn ?_
    refine tn ?_
    refine reg (a := a13) (σ := s11) rfl (fun i_ => List.getD [(Ty.pr (Ty.nat k)), (Ty.pr (Ty.nat (k + 1))), (Ty.pr (Ty.nat (k + 1)))] i_ Pr.any) ok12 rfl ⟨?_, ?_, ?_, trivial⟩ ?_
    · intro ax tx hs okx sm
      exact run_plain rfl (y_move (kp (sm 10 rfl) hs q62))
    · intro ax tx hs okx sm d0
      have e0 : At (Ty.nat k) tx ax (.tmp 29) := d0 rfl
      exact run_plain rfl ((y_add e0 rfl (w64 (by omega) (by omega))).mono (fun τ _ h => cvi (σ := τ) (by first | omega | exact (Int.natCast_mul _ _).symm) h))
    · intro ax tx hs okx sm d0 d1 d2
      have e1 : At (Ty.nat (k + 1)) tx ax (.tmp 30) := d0 rfl
      have e0 : At (Ty.nat k) tx ax (.tmp 29) := d1 rfl
      exact run_plain rfl (y_assign e1)
    intro a14 s12 D10
    have ok13 := D10.ok
    have F13 := F12.step0 D10.stp
    have q68 : At (Ty.lst Ty.int raw) s12 a14 (.tmp 0) := D10.kt q63 rfl
    have q69 : At (Ty.int many) s12 a14 (.tmp 2) := D10.kt q64 rfl
    have q70 : At (Ty.lst Ty.int guess) s12 a14 (.tmp 3) := D10.kt q65 rfl
    have q71 : At (Ty.nat M) s12 a14 (.tmp 1) := D10.kt q66 rfl
    have q72 : At (Ty.val x1) s12 a14 (.tmp 9) := D10.kt q67 rfl
    have o8 := Own.k0 o7 D10.stp
    have q73 : At (Ty.nat (k + 1)) s12 a14 (.tmp 10) := D10.done 2
    clear D10
    exact tn ⟨K - ((k+1)), by omega, s12, (k+1), x1, rfl, F13, ok13, (cvi (by (first | rfl | omega | (simp_all; done) | (simp_all; omega))) q73), q72, q68, q69, q70, q71, (cvo (by (rw [chgsL_succ])) (by (rw [chgsL_succ])) o8), by omega, rfl⟩
   ·
    have o9 : Own s7 2 34 1 x9_0 (List.length (chgsL raw M K)) (List.map Ty.ints (chgsL raw M K)) := (cvo (by (rw [show k = K by omega])) (by (rw [show k = K by omega])) o3)
    refine wp_exit ?_
    refine tx ?_
    refine tx ?_
    refine bx ?_
    refine tn ?_
    refine wp_seq ?_
    obtain ⟨t3, e1, h1, q74⟩ := Own.seal o9 (by decide)
    rw [← e1]
    have F14 := F8.step h1 (by decide)
    have q75 := Ty.up (Ty.nat k) (h1.le (by decide)) q33
    have q76 : At (Ty.lst Ty.ints (chgsL raw M K)) t3 a9 (.tmp 9) := by have e : a9.eval (.tmp 9) = x9_0 := q34; show Ty.has _ _ _; rw [e]; exact q74
    have q77 := Ty.up (Ty.lst Ty.int raw) (h1.le (by decide)) q35
    have q78 := Ty.up (Ty.int many) (h1.le (by decide)) q36
    have q79 := Ty.up (Ty.lst Ty.int guess) (h1.le (by decide)) q37
    have q80 := Ty.up (Ty.nat M) (h1.le (by decide)) q38
    have q81 := Ty.up (Ty.bool (decide (((k : Nat) : Int) < ((K : Nat) : Int)))) (h1.le (by decide)) q39
    refine reg (a := a9) (σ := t3) rfl (fun i_ => List.getD [(Ty.pr (Ty.nat M)), (Ty.pr (Ty.lst Ty.ints (chgsL raw M K))), (Ty.pr (Ty.tup3 (Ty.lst Ty.int (O.getD [])) (Ty.bool O.isSome) (Ty.int (0 : Int)))), (Ty.pr (Ty.tup3 (Ty.lst Ty.int (O.getD [])) (Ty.bool O.isSome) (Ty.int (0 : Int)))), (Ty.pr (Ty.lst Ty.int (O.getD []))), (Ty.pr (Ty.bool O.isSome)), (Ty.pr (Ty.int (0 : Int))), (Ty.pr (Ty.lst Ty.int (O.getD []))), (Ty.pr (Ty.bool O.isSome)), (Ty.pr (Ty.int (0 : Int)))] i_ Pr.any) ok8 rfl ⟨?_, ?_, ?_, ?_, ?_, ?_, ?_, ?_, ?_, ?_, trivial⟩ ?_
    · intro ax tx hs okx sm
      exact run_plain rfl (y_move (kp (sm 1 rfl) hs q80))
    · intro ax tx hs okx sm
      exact run_plain rfl (y_move (kp (sm 9 rfl) hs q76))
    · intro ax tx hs okx sm d0 d1
      have e0 : At (Ty.nat M) tx ax (.tmp 43) := d0 rfl
      have e1 : At (Ty.lst Ty.ints (chgsL raw M K)) tx ax (.tmp 44) := d1 rfl
      exact run_plain rfl ((y_call #[ax.eval (.tmp 43), ax.eval (.tmp 44)] Try.func20 rfl rfl (by simp only [List.map_toArray, List.map_cons, List.map_nil]) (extCircuit_fn (((M : Nat) : Int)) ((chgsL raw M K)) _ _ _ (cvi (σ := tx) (by omega) e0) e1 )).mono (fun τ _ h => cvt (σ := τ) (T := (Ty.tup3 (Ty.lst Ty.int ((cirO (((M : Nat) : Int)) ((chgsL raw M K))).getD [])) (Ty.bool (cirO (((M : Nat) : Int)) ((chgsL raw M K))).isSome) (Ty.int (cirMay (((M : Nat) : Int)) ((chgsL raw M K)))))) (U := (Ty.tup3 (Ty.lst Ty.int (O.getD [])) (Ty.bool O.isSome) (Ty.int (0 : Int)))) (by rw [hcm, hO]) h))
    · intro ax tx hs okx sm d0
      have e2 : At (Ty.tup3 (Ty.lst Ty.int (O.getD [])) (Ty.bool O.isSome) (Ty.int (0 : Int))) tx ax (.tmp 45) := d0 rfl
      exact run_plain rfl (y_move e2)
    · intro ax tx hs okx sm d0
      have e3 : At (Ty.tup3 (Ty.lst Ty.int (O.getD [])) (Ty.bool O.isSome) (Ty.int (0 : Int))) tx ax (.tmp 42) := d0 rfl
      exact run_plain rfl (y_ext3_0 e3)
    · intro ax tx hs okx sm d0 d1
      have e3 : At (Ty.tup3 (Ty.lst Ty.int (O.getD [])) (Ty.bool O.isSome) (Ty.int (0 : Int))) tx ax (.tmp 42) := d0 rfl
      exact run_plain rfl (y_ext3_1 e3)
    · intro ax tx hs okx sm d0 d1
      have e3 : At (Ty.tup3 (Ty.lst Ty.int (O.getD [])) (Ty.bool O.isSome) (Ty.int (0 : Int))) tx ax (.tmp 42) := d0 rfl
      exact run_plain rfl (y_ext3_2 e3)
    · intro ax tx hs okx sm d0 d1 d2 d3 d4 d5 d6 d7 d8
      have e4 : At (Ty.lst Ty.int (O.getD [])) tx ax (.tmp 46) := d0 rfl
      have e2 : At (Ty.tup3 (Ty.lst Ty.int (O.getD [])) (Ty.bool O.isSome) (Ty.int (0 : Int))) tx ax (.tmp 45) := d1 rfl
      have e0 : At (Ty.nat M) tx ax (.tmp 43) := d2 rfl
      have e1 : At (Ty.lst Ty.ints (chgsL raw M K)) tx ax (.tmp 44) := d3 rfl
      have e3 : At (Ty.tup3 (Ty.lst Ty.int (O.getD [])) (Ty.bool O.isSome) (Ty.int (0 : Int))) tx ax (.tmp 42) := d5 rfl
      exact run_plain rfl (y_assign e4)
    · intro ax tx hs okx sm d0 d1 d2 d3 d4 d5 d6 d7 d8 d9
      have e5 : At (Ty.bool O.isSome) tx ax (.tmp 47) := d0 rfl
      have e7 : At (Ty.lst Ty.int (O.getD [])) tx ax (.tmp 12) := d1 rfl
      have e0 : At (Ty.nat M) tx ax (.tmp 43) := d2 rfl
      have e1 : At (Ty.lst Ty.ints (chgsL raw M K)) tx ax (.tmp 44) := d3 rfl
      have e2 : At (Ty.tup3 (Ty.lst Ty.int (O.getD [])) (Ty.bool O.isSome) (Ty.int (0 : Int))) tx ax (.tmp 45) := d4 rfl
      have e3 : At (Ty.tup3 (Ty.lst Ty.int (O.getD [])) (Ty.bool O.isSome) (Ty.int (0 : Int))) tx ax (.tmp 42) := d5 rfl
      have e4 : At (Ty.lst Ty.int (O.getD [])) tx ax (.tmp 46) := d6 rfl
      exact run_plain rfl (y_assign e5)
    · intro ax tx hs okx sm d0 d1 d2 d3 d4 d5 d6 d7 d8 d9 d10
      have e6 : At (Ty.int (0 : Int)) tx ax (.tmp 48) := d0 rfl
      have e8 : At (Ty.bool O.isSome) tx ax (.tmp 13) := d1 rfl
      have e0 : At (Ty.nat M) tx ax (.tmp 43) := d2 rfl
      have e1 : At (Ty.lst Ty.ints (chgsL raw M K)) tx ax (.tmp 44) := d3 rfl
      have e2 : At (Ty.tup3 (Ty.lst Ty.int (O.getD [])) (Ty.bool O.isSome) (Ty.int (0 : Int))) tx ax (.tmp 45) := d4 rfl
      have e3 : At (Ty.tup3 (Ty.lst Ty.int (O.getD [])) (Ty.bool O.isSome) (Ty.int (0 : Int))) tx ax (.tmp 42) := d5 rfl
      have e4 : At (Ty.lst Ty.int (O.getD [])) tx ax (.tmp 46) := d6 rfl
      have e5 : At (Ty.bool O.isSome) tx ax (.tmp 47) := d7 rfl
      have e7 : At (Ty.lst Ty.int (O.getD [])) tx ax (.tmp 12) := d9 rfl
      exact run_plain rfl (y_assign e6)
    intro a15 s13 D11
    have ok14 := D11.ok
    have F15 := F14.step0 D11.stp
    have q82 : At (Ty.lst Ty.ints (chgsL raw M K)) s13 a15 (.tmp 9) := D11.kt q76 rfl
    have q83 : At (Ty.lst Ty.int guess) s13 a15 (.tmp 3) := D11.kt q79 rfl
    have q84 : At (Ty.nat M) s13 a15 (.tmp 1) := D11.kt q80 rfl
    have q85 : At (Ty.lst Ty.int (O.getD [])) s13 a15 (.tmp 12) := D11.done 7
    have q86 : At (Ty.bool O.isSome) s13 a15 (.tmp 13) := D11.done 8
    have q87 : At (Ty.int (0 : Int)) s13 a15 (.tmp 14) := D11.done 9
    clear D11
    refine tn ?_
    refine wp_seq ?_
    refine wp_seq ?_
    refine reg (a := a15) (σ := s13) rfl (fun i_ => List.getD [(Ty.pr (Ty.int (0 : Int))), (Ty.pr (Ty.bool false)), (Ty.pr (Ty.bool false)), (Ty.pr (Ty.grd (false = false) (Ty.bool O.isSome))), (Ty.pr (Ty.grd (false = false) (Ty.bool O.isSome))), (Ty.pr (Ty.grd ((false = false) ∧ O.isSome = true) (Ty.nat M))), (Ty.pr (Ty.grd ((false = false) ∧ O.isSome = true) (Ty.lst Ty.ints (chgsL raw M K)))), (Ty.pr (Ty.grd ((false = false) ∧ O.isSome = true) (Ty.lst Ty.int (O.getD [])))), (Ty.pr (Ty.grd ((false = false) ∧ O.isSome = true) (Ty.bool (ringsB (M) ((chgsL raw M K)) ((O.getD [])))))), (Ty.pr (Ty.grd ((false = false) ∧ O.isSome = true) (Ty.bool (!(ringsB (M) ((chgsL raw M K)) ((O.getD []))))))), (Ty.pr (Ty.grd (false = false) (Ty.bool (O.isSome && (!(ringsB (M) ((chgsL raw M K)) ((O.getD [])))))))), (Ty.pr (Ty.bool (false || (O.isSome && (!(ringsB (M) ((chgsL raw M K)) ((O.getD [])))))))), (Ty.pr (Ty.bool (false || (O.isSome && (!(ringsB (M) ((chgsL raw M K)) ((O.getD [])))))))), (Ty.pr (Ty.grd ((false || (O.isSome && (!(ringsB (M) ((chgsL raw M K)) ((O.getD [])))))) = false) (Ty.bool O.isSome))), (Ty.pr (Ty.grd ((false || (O.isSome && (!(ringsB (M) ((chgsL raw M K)) ((O.getD [])))))) = false) (Ty.bool (!O.isSome)))), (Ty.pr (Ty.grd ((false || (O.isSome && (!(ringsB (M) ((chgsL raw M K)) ((O.getD [])))))) = false) (Ty.bool (!O.isSome)))), (Ty.pr (Ty.grd (((false || (O.isSome && (!(ringsB (M) ((chgsL raw M K)) ((O.getD [])))))) = false) ∧ (!O.isSome) = true) (Ty.lst Ty.int (O.getD [])))), (Ty.pr (Ty.grd (((false || (O.isSome && (!(ringsB (M) ((chgsL raw M K)) ((O.getD [])))))) = false) ∧ (!O.isSome) = true) (Ty.nat (List.length (O.getD []))))), (Ty.pr (Ty.grd (((false || (O.isSome && (!(ringsB (M) ((chgsL raw M K)) ((O.getD [])))))) = false) ∧ (!O.isSome) = true) (Ty.bool (decide ((0 : Int) < (((List.length (O.getD [])) : Nat) : Int)))))), (Ty.pr (Ty.grd ((false || (O.isSome && (!(ringsB (M) ((chgsL raw M K)) ((O.getD [])))))) = false) (Ty.bool ((!O.isSome) && (decide ((0 : Int) < (((List.length (O.getD [])) : Nat) : Int))))))), (Ty.pr (Ty.bool ((false || (O.isSome && (!(ringsB (M) ((chgsL raw M K)) ((O.getD [])))))) || ((!O.isSome) && (decide ((0 : Int) < (((List.length (O.getD [])) : Nat) : Int)))))))] i_ Pr.any) ok14 rfl ⟨?_, ?_, ?_, ?_, ?_, ?_, ?_, ?_, ?_, ?_, ?_, ?_, ?_, ?_, ?_, ?_, ?_, ?_, ?_, ?_, ?_, trivial⟩ ?_
    · intro ax tx hs okx sm
      exact run_plain rfl (y_move (kp (sm 14 rfl) hs q87))
    · intro ax tx hs okx sm d0
      have e0 : At (Ty.int (0 : Int)) tx ax (.tmp 49) := d0 rfl
      exact run_plain rfl ((y_neq e0 rfl).mono (fun τ _ h => cvb (σ := τ) (by decide) h))
    · intro ax tx hs okx sm d0
      have e1 : At (Ty.bool false) tx ax (.tmp 50) := d0 rfl
      exact run_plain rfl (y_move e1)
    · intro ax tx hs okx sm d0
      have e2 : At (Ty.bool false) tx ax (.tmp 51) := d0 rfl
      refine run_guard (T := (Ty.bool O.isSome)) okx rfl rfl (by decide) e2 (fun hg => ?_)
      exact y_move (kp (sm 13 rfl) hs q86)
    · intro ax tx hs okx sm d0 d1 d2
      have e3 : At (Ty.grd (false = false) (Ty.bool O.isSome)) tx ax (.tmp 52) := d0 rfl
      have e2 : At (Ty.bool false) tx ax (.tmp 51) := d1 rfl
      refine run_guard (T := (Ty.bool O.isSome)) okx rfl rfl (by decide) e2 (fun hg => ?_)
      exact y_move (e3.1 hg)
    · intro ax tx hs okx sm d0
      have e4 : At (Ty.grd (false = false) (Ty.bool O.isSome)) tx ax (.tmp 53) := d0 rfl
      refine run_guard2 (T := (Ty.nat M)) okx rfl rfl (by decide) e4 (fun hg => ?_)
      exact y_move (kp (sm 1 rfl) hs q84)
    · intro ax tx hs okx sm d0
      have e4 : At (Ty.grd (false = false) (Ty.bool O.isSome)) tx ax (.tmp 53) := d0 rfl
      refine run_guard2 (T := (Ty.lst Ty.ints (chgsL raw M K))) okx rfl rfl (by decide) e4 (fun hg => ?_)
      exact y_move (kp (sm 9 rfl) hs q82)
    · intro ax tx hs okx sm d0
      have e4 : At (Ty.grd (false = false) (Ty.bool O.isSome)) tx ax (.tmp 53) := d0 rfl
      refine run_guard2 (T := (Ty.lst Ty.int (O.getD []))) okx rfl rfl (by decide) e4 (fun hg => ?_)
      exact y_move (kp (sm 12 rfl) hs q85)
    · intro ax tx hs okx sm d0 d1 d2 d3 d4
      have e5 : At (Ty.grd ((false = false) ∧ O.isSome = true) (Ty.nat M)) tx ax (.tmp 54) := d0 rfl
      have e6 : At (Ty.grd ((false = false) ∧ O.isSome = true) (Ty.lst Ty.ints (chgsL raw M K))) tx ax (.tmp 55) := d1 rfl
      have e7 : At (Ty.grd ((false = false) ∧ O.isSome = true) (Ty.lst Ty.int (O.getD []))) tx ax (.tmp 56) := d2 rfl
      have e4 : At (Ty.grd (false = false) (Ty.bool O.isSome)) tx ax (.tmp 53) := d3 rfl
      refine run_guard2 (T := (Ty.bool (ringsB (M) ((chgsL raw M K)) ((O.getD []))))) okx rfl rfl (by decide) e4 (fun hg => ?_)
      exact y_call #[ax.eval (.tmp 54), ax.eval (.tmp 55), ax.eval (.tmp 56)] Try.func60 rfl rfl (by simp only [List.map_toArray, List.map_cons, List.map_nil]) (rings_fn (M) ((chgsL raw M K)) ((O.getD [])) _ _ _ _ (cvi (σ := tx) (by first | omega | assumption) (e5.1 hg)) (e6.1 hg) (e7.1 hg) (by first | omega | assumption) (by first | omega | assumption))
    · intro ax tx hs okx sm d0 d1
      have e8 : At (Ty.grd ((false = false) ∧ O.isSome = true) (Ty.bool (ringsB (M) ((chgsL raw M K)) ((O.getD []))))) tx ax (.tmp 57) := d0 rfl
      have e4 : At (Ty.grd (false = false) (Ty.bool O.isSome)) tx ax (.tmp 53) := d1 rfl
      refine run_guard2 (T := (Ty.bool (!(ringsB (M) ((chgsL raw M K)) ((O.getD [])))))) okx rfl rfl (by decide) e4 (fun hg => ?_)
      exact y_not (e8.1 hg)
    · intro ax tx hs okx sm d0 d1 d2
      have e4 : At (Ty.grd (false = false) (Ty.bool O.isSome)) tx ax (.tmp 53) := d0 rfl
      have e9 : At (Ty.grd ((false = false) ∧ O.isSome = true) (Ty.bool (!(ringsB (M) ((chgsL raw M K)) ((O.getD [])))))) tx ax (.tmp 58) := d1 rfl
      have e2 : At (Ty.bool false) tx ax (.tmp 51) := d2 rfl
      refine run_guard (T := (Ty.bool (O.isSome && (!(ringsB (M) ((chgsL raw M K)) ((O.getD []))))))) okx rfl rfl (by decide) e2 (fun hg => ?_)
      exact y_pick_and (e4.1 hg) (grd_part hg e9) rfl
    · intro ax tx hs okx sm d0 d1
      have e2 : At (Ty.bool false) tx ax (.tmp 51) := d0 rfl
      have e10 : At (Ty.grd (false = false) (Ty.bool (O.isSome && (!(ringsB (M) ((chgsL raw M K)) ((O.getD []))))))) tx ax (.tmp 59) := d1 rfl
      exact run_plain rfl (y_pick_or e2 rfl e10)
    · intro ax tx hs okx sm d0 d1
      have e11 : At (Ty.bool (false || (O.isSome && (!(ringsB (M) ((chgsL raw M K)) ((O.getD []))))))) tx ax (.tmp 60) := d0 rfl
      have e8 : At (Ty.grd ((false = false) ∧ O.isSome = true) (Ty.bool (ringsB (M) ((chgsL raw M K)) ((O.getD []))))) tx ax (.tmp 57) := d1 rfl
      exact run_plain rfl (y_move e11)
    · intro ax tx hs okx sm d0
      have e12 : At (Ty.bool (false || (O.isSome && (!(ringsB (M) ((chgsL raw M K)) ((O.getD []))))))) tx ax (.tmp 61) := d0 rfl
      refine run_guard (T := (Ty.bool O.isSome)) okx rfl rfl (by decide) e12 (fun hg => ?_)
      obtain ⟨d1, d2⟩ := Bool.or_eq_false_iff.mp hg
      exact y_move (kp (sm 13 rfl) hs q86)
    · intro ax tx hs okx sm d0 d1
      have e13 : At (Ty.grd ((false || (O.isSome && (!(ringsB (M) ((chgsL raw M K)) ((O.getD [])))))) = false) (Ty.bool O.isSome)) tx ax (.tmp 62) := d0 rfl
      have e12 : At (Ty.bool (false || (O.isSome && (!(ringsB (M) ((chgsL raw M K)) ((O.getD []))))))) tx ax (.tmp 61) := d1 rfl
      refine run_guard (T := (Ty.bool (!O.isSome))) okx rfl rfl (by decide) e12 (fun hg => ?_)
      obtain ⟨d3, d4⟩ := Bool.or_eq_false_iff.mp hg
      exact y_not (e13.1 hg)
    · intro ax tx hs okx sm d0 d1 d2
      have e14 : At (Ty.grd ((false || (O.isSome && (!(ringsB (M) ((chgsL raw M K)) ((O.getD [])))))) = false) (Ty.bool (!O.isSome))) tx ax (.tmp 63) := d0 rfl
      have e12 : At (Ty.bool (false || (O.isSome && (!(ringsB (M) ((chgsL raw M K)) ((O.getD []))))))) tx ax (.tmp 61) := d1 rfl
      refine run_guard (T := (Ty.bool (!O.isSome))) okx rfl rfl (by decide) e12 (fun hg => ?_)
      obtain ⟨d5, d6⟩ := Bool.or_eq_false_iff.mp hg
      exact y_move (e14.1 hg)
    · intro ax tx hs okx sm d0
      have e15 : At (Ty.grd ((false || (O.isSome && (!(ringsB (M) ((chgsL raw M K)) ((O.getD [])))))) = false) (Ty.bool (!O.isSome))) tx ax (.tmp 64) := d0 rfl
      refine run_guard2 (T := (Ty.lst Ty.int (O.getD []))) okx rfl rfl (by decide) e15 (fun hg => ?_)
      exact y_move (kp (sm 12 rfl) hs q85)
    · intro ax tx hs okx sm d0 d1
      have e16 : At (Ty.grd (((false || (O.isSome && (!(ringsB (M) ((chgsL raw M K)) ((O.getD [])))))) = false) ∧ (!O.isSome) = true) (Ty.lst Ty.int (O.getD []))) tx ax (.tmp 65) := d0 rfl
      have e15 : At (Ty.grd ((false || (O.isSome && (!(ringsB (M) ((chgsL raw M K)) ((O.getD [])))))) = false) (Ty.bool (!O.isSome))) tx ax (.tmp 64) := d1 rfl
      refine run_guard2 (T := (Ty.nat (List.length (O.getD [])))) okx rfl rfl (by decide) e15 (fun hg => ?_)
      exact y_len Try.underlying34 (e16.1 hg)
    · intro ax tx hs okx sm d0 d1
      have e17 : At (Ty.grd (((false || (O.isSome && (!(ringsB (M) ((chgsL raw M K)) ((O.getD [])))))) = false) ∧ (!O.isSome) = true) (Ty.nat (List.length (O.getD [])))) tx ax (.tmp 66) := d0 rfl
      have e15 : At (Ty.grd ((false || (O.isSome && (!(ringsB (M) ((chgsL raw M K)) ((O.getD [])))))) = false) (Ty.bool (!O.isSome))) tx ax (.tmp 64) := d1 rfl
      refine run_guard2 (T := (Ty.bool (decide ((0 : Int) < (((List.length (O.getD [])) : Nat) : Int))))) okx rfl rfl (by decide) e15 (fun hg => ?_)
      exact y_gtr (e17.1 hg) rfl
    · intro ax tx hs okx sm d0 d1 d2
      have e15 : At (Ty.grd ((false || (O.isSome && (!(ringsB (M) ((chgsL raw M K)) ((O.getD [])))))) = false) (Ty.bool (!O.isSome))) tx ax (.tmp 64) := d0 rfl
      have e18 : At (Ty.grd (((false || (O.isSome && (!(ringsB (M) ((chgsL raw M K)) ((O.getD [])))))) = false) ∧ (!O.isSome) = true) (Ty.bool (decide ((0 : Int) < (((List.length (O.getD [])) : Nat) : Int))))) tx ax (.tmp 67) := d1 rfl
      have e12 : At (Ty.bool (false || (O.isSome && (!(ringsB (M) ((chgsL raw M K)) ((O.getD []))))))) tx ax (.tmp 61) := d2 rfl
      refine run_guard (T := (Ty.bool ((!O.isSome) && (decide ((0 : Int) < (((List.length (O.getD [])) : Nat) : Int)))))) okx rfl rfl (by decide) e12 (fun hg => ?_)
      obtain ⟨d7, d8⟩ := Bool.or_eq_false_iff.mp hg
      exact y_pick_and (e15.1 hg) (grd_part hg e18) rfl
    · intro ax tx hs okx sm d0 d1
      have e12 : At (Ty.bool (false || (O.isSome && (!(ringsB (M) ((chgsL raw M K)) ((O.getD []))))))) tx ax (.tmp 61) := d0 rfl
      have e19 : At (Ty.grd ((false || (O.isSome && (!(ringsB (M) ((chgsL raw M K)) ((O.getD [])))))) = false) (Ty.bool ((!O.isSome) && (decide ((0 : Int) < (((List.length (O.getD [])) : Nat) : Int)))))) tx ax (.tmp 68) := d1 rfl
      exact run_plain rfl (y_pick_or e12 rfl e19)
    intro a16 s14 D12
    have ok15 := D12.ok
    have F16 := F15.step0 D12.stp
    have q88 : At (Ty.lst Ty.ints (chgsL raw M K)) s14 a16 (.tmp 9) := D12.kt q82 rfl
    have q89 : At (Ty.lst Ty.int guess) s14 a16 (.tmp 3) := D12.kt q83 rfl
    have q90 : At (Ty.nat M) s14 a16 (.tmp 1) := D12.kt q84 rfl
    have q91 : At (Ty.lst Ty.int (O.getD [])) s14 a16 (.tmp 12) := D12.kt q85 rfl
    have q92 : At (Ty.bool O.isSome) s14 a16 (.tmp 13) := D12.kt q86 rfl
    have q93 : At (Ty.bool ((false || (O.isSome && (!(ringsB (M) ((chgsL raw M K)) ((O.getD [])))))) || ((!O.isSome) && (decide ((0 : Int) < (((List.length (O.getD [])) : Nat) : Int)))))) s14 a16 (.tmp 69) := D12.done 20
    clear D12
    refine tn ?_
    refine cond_t q93 (fun c3 => ?_) (fun c3 => ?_)
    ·
     exfalso
     rw [hrf.1, hrf.2.1] at c3; simp at c3
    ·
     obtain ⟨d9, d10⟩ := Bool.or_eq_false_iff.mp c3
     obtain ⟨d11, d12⟩ := Bool.or_eq_false_iff.mp d9
     refine wp_skip ?_
     refine tn ?_
     refine wp_seq ?_
     refine wp_seq ?_
     refine reg (a := a16) (σ := s14) rfl (fun i_ => List.getD [(Ty.pr (Ty.lst Ty.ints (chgsL raw M K))), (Ty.pr (Ty.nat (List.length (chgsL raw M K)))), (Ty.pr (Ty.bool (decide ((((List.length (chgsL raw M K)) : Nat) : Int) = (0 : Int)))))] i_ Pr.any) ok15 rfl ⟨?_, ?_, ?_, trivial⟩ ?_
     · intro ax tx hs okx sm
       exact run_plain rfl (y_move (kp (sm 9 rfl) hs q88))
     · intro ax tx hs okx sm d0
       have e0 : At (Ty.lst Ty.ints (chgsL raw M K)) tx ax (.tmp 70) := d0 rfl
       exact run_plain rfl (y_len Try.underlying33 e0)
     · intro ax tx hs okx sm d0
       have e1 : At (Ty.nat (List.length (chgsL raw M K))) tx ax (.tmp 71) := d0 rfl
       exact run_plain rfl (y_eql e1 rfl)
     intro a17 s15 D13
     have ok16 := D13.ok
     have F17 := F16.step0 D13.stp
     have q94 : At (Ty.lst Ty.ints (chgsL raw M K)) s15 a17 (.tmp 9) := D13.kt q88 rfl
     have q95 : At (Ty.lst Ty.int guess) s15 a17 (.tmp 3) := D13.kt q89 rfl
     have q96 : At (Ty.nat M) s15 a17 (.tmp 1) := D13.kt q90 rfl
     have q97 : At (Ty.lst Ty.int (O.getD [])) s15 a17 (.tmp 12) := D13.kt q91 rfl
     have q98 : At (Ty.bool O.isSome) s15 a17 (.tmp 13) := D13.kt q92 rfl
     have q99 : At (Ty.bool (decide ((((List.length (chgsL raw M K)) : Nat) : Int) = (0 : Int)))) s15 a17 (.tmp 72) := D13.done 2
     clear D13
     refine tn ?_
     refine cond_p (p := ((((List.length (chgsL raw M K)) : Nat) : Int) = (0 : Int))) q99 (fun c4 => ?_) (fun c4 => ?_)
     ·
      have hz := hrf.2.2.1 (by omega)
      refine wp_seq ?_
      refine reg (a := a17) (σ := s15) rfl (fun i_ => List.getD [(Ty.pr (Ty.bool O.isSome)), (Ty.pr (Ty.bool (!O.isSome))), (Ty.pr (Ty.bool (!O.isSome)))] i_ Pr.any) ok16 rfl ⟨?_, ?_, ?_, trivial⟩ ?_
      · intro ax tx hs okx sm
        exact run_plain rfl (y_move (kp (sm 13 rfl) hs q98))
      · intro ax tx hs okx sm d0
        have e0 : At (Ty.bool O.isSome) tx ax (.tmp 73) := d0 rfl
        exact run_plain rfl (y_not e0)
      · intro ax tx hs okx sm d0 d1 d2
        have e1 : At (Ty.bool (!O.isSome)) tx ax (.tmp 74) := d0 rfl
        have e0 : At (Ty.bool O.isSome) tx ax (.tmp 73) := d1 rfl
        exact run_plain rfl (y_assign e1)
      intro a18 s16 D14
      have ok17 := D14.ok
      have F18 := F17.step0 D14.stp
      have q100 : At (Ty.bool (!O.isSome)) s16 a18 (.tmp 8) := D14.done 2
      clear D14
      refine tn ?_
      refine wp_ret ?_
      refine tr ?_
      exact retL1 rfl ok17 F18 (cvb (by (rw [hz]; rfl)) q100)
     ·
      refine wp_skip ?_
      refine tn ?_
      refine wp_seq ?_
      refine reg (a := a17) (σ := s15) rfl (fun i_ => List.getD [(Ty.pr (Ty.lst Ty.int guess)), (Ty.pr (Ty.nat M)), (Ty.pr (Ty.nat (fct (M)))), (Ty.pr (Ty.lst Ty.ints (chgsL raw M K))), (Ty.pr (Ty.nat (List.length (chgsL raw M K)))), (Ty.pr (Ty.lst Ty.int (leadsOf (guess) ((fct (M))) ((List.length (chgsL raw M K)))))), (Ty.pr (Ty.lst Ty.int (leadsOf (guess) ((fct (M))) ((List.length (chgsL raw M K))))))] i_ Pr.any) ok16 rfl ⟨?_, ?_, ?_, ?_, ?_, ?_, ?_, trivial⟩ ?_
      · intro ax tx hs okx sm
        exact run_plain rfl (y_move (kp (sm 3 rfl) hs q95))
      · intro ax tx hs okx sm
        exact run_plain rfl (y_move (kp (sm 1 rfl) hs q96))
      · intro ax tx hs okx sm d0
        have e1 : At (Ty.nat M) tx ax (.tmp 76) := d0 rfl
        exact run_plain rfl (y_call #[ax.eval (.tmp 76)] Try.func35 rfl rfl (by simp only [List.map_toArray, List.map_cons, List.map_nil]) (rFact_fn ((M)) (M) _ _ (cvi (σ := tx) (by omega) e1) (by omega) (by omega)))
      · intro ax tx hs okx sm
        exact run_plain rfl (y_move (kp (sm 9 rfl) hs q94))
      · intro ax tx hs okx sm d0
        have e3 : At (Ty.lst Ty.ints (chgsL raw M K)) tx ax (.tmp 78) := d0 rfl
        exact run_plain rfl (y_len Try.underlying33 e3)
      · intro ax tx hs okx sm d0 d1 d2 d3
        have e0 : At (Ty.lst Ty.int guess) tx ax (.tmp 75) := d0 rfl
        have e2 : At (Ty.nat (fct (M))) tx ax (.tmp 77) := d1 rfl
        have e4 : At (Ty.nat (List.length (chgsL raw M K))) tx ax (.tmp 79) := d2 rfl
        exact run_plain rfl (y_call #[ax.eval (.tmp 75), ax.eval (.tmp 77), ax.eval (.tmp 79)] Try.func61 rfl rfl (by simp only [List.map_toArray, List.map_cons, List.map_nil]) (rLeadsOf_fn (guess) ((fct (M))) ((List.length (chgsL raw M K))) _ _ _ _ e0 (cvi (σ := tx) (by first | omega | assumption) e2) (cvi (σ := tx) (by first | omega | assumption) e4) (by first | omega | assumption) (by first | omega | assumption) (by first | omega | assumption)))
      · intro ax tx hs okx sm d0 d1 d2 d3 d4 d5 d6 d7
        have e5 : At (Ty.lst Ty.int (leadsOf (guess) ((fct (M))) ((List.length (chgsL raw M K))))) tx ax (.tmp 80) := d0 rfl
        have e0 : At (Ty.lst Ty.int guess) tx ax (.tmp 75) := d2 rfl
        have e1 : At (Ty.nat M) tx ax (.tmp 76) := d3 rfl
        have e2 : At (Ty.nat (fct (M))) tx ax (.tmp 77) := d4 rfl
        have e3 : At (Ty.lst Ty.ints (chgsL raw M K)) tx ax (.tmp 78) := d5 rfl
        have e4 : At (Ty.nat (List.length (chgsL raw M K))) tx ax (.tmp 79) := d6 rfl
        exact run_plain rfl (y_assign e5)
      intro a19 s17 D15
      have ok18 := D15.ok
      have F19 := F17.step0 D15.stp
      have q101 : At (Ty.lst Ty.ints (chgsL raw M K)) s17 a19 (.tmp 9) := D15.kt q94 rfl
      have q102 : At (Ty.nat M) s17 a19 (.tmp 1) := D15.kt q96 rfl
      have q103 : At (Ty.lst Ty.int (O.getD [])) s17 a19 (.tmp 12) := D15.kt q97 rfl
      have q104 : At (Ty.bool O.isSome) s17 a19 (.tmp 13) := D15.kt q98 rfl
      have q105 : At (Ty.lst Ty.int (leadsOf (guess) ((fct (M))) ((List.length (chgsL raw M K))))) s17 a19 (.tmp 15) := D15.done 6
      clear D15
      refine tn ?_
      refine wp_seq ?_
      refine reg (a := a19) (σ := s17) rfl (fun i_ => List.getD [(Ty.pr (Ty.nat M)), (Ty.pr (Ty.lst Ty.ints (chgsL raw M K))), (Ty.pr (Ty.lst Ty.int (leadsOf (guess) ((fct (M))) ((List.length (chgsL raw M K)))))), (Ty.pr (Ty.bool (ringsB (M) ((chgsL raw M K)) ((leadsOf (guess) ((fct (M))) ((List.length (chgsL raw M K)))))))), (Ty.pr (Ty.bool (!(ringsB (M) ((chgsL raw M K)) ((leadsOf (guess) ((fct (M))) ((List.length (chgsL raw M K))))))))), (Ty.pr (Ty.bool (!(ringsB (M) ((chgsL raw M K)) ((leadsOf (guess) ((fct (M))) ((List.length (chgsL raw M K))))))))), (Ty.pr (Ty.grd ((!(ringsB (M) ((chgsL raw M K)) ((leadsOf (guess) ((fct (M))) ((List.length (chgsL raw M K))))))) = false) (Ty.bool O.isSome))), (Ty.pr (Ty.grd ((!(ringsB (M) ((chgsL raw M K)) ((leadsOf (guess) ((fct (M))) ((List.length (chgsL raw M K))))))) = false) (Ty.bool O.isSome))), (Ty.pr (Ty.grd (((!(ringsB (M) ((chgsL raw M K)) ((leadsOf (guess) ((fct (M))) ((List.length (chgsL raw M K))))))) = false) ∧ O.isSome = true) (Ty.lst Ty.int (leadsOf (guess) ((fct (M))) ((List.length (chgsL raw M K))))))), (Ty.pr (Ty.grd (((!(ringsB (M) ((chgsL raw M K)) ((leadsOf (guess) ((fct (M))) ((List.length (chgsL raw M K))))))) = false) ∧ O.isSome = true) (Ty.lst Ty.int (O.getD [])))), (Ty.pr (Ty.grd (((!(ringsB (M) ((chgsL raw M K)) ((leadsOf (guess) ((fct (M))) ((List.length (chgsL raw M K))))))) = false) ∧ O.isSome = true) (Ty.bool (belowL ((leadsOf (guess) ((fct (M))) ((List.length (chgsL raw M K))))) ((O.getD [])))))), (Ty.pr (Ty.grd (((!(ringsB (M) ((chgsL raw M K)) ((leadsOf (guess) ((fct (M))) ((List.length (chgsL raw M K))))))) = false) ∧ O.isSome = true) (Ty.bool (!(belowL ((leadsOf (guess) ((fct (M))) ((List.length (chgsL raw M K))))) ((O.getD []))))))), (Ty.pr (Ty.grd ((!(ringsB (M) ((chgsL raw M K)) ((leadsOf (guess) ((fct (M))) ((List.length (chgsL raw M K))))))) = false) (Ty.bool (O.isSome && (!(belowL ((leadsOf (guess) ((fct (M))) ((List.length (chgsL raw M K))))) ((O.getD [])))))))), (Ty.pr (Ty.bool ((!(ringsB (M) ((chgsL raw M K)) ((leadsOf (guess) ((fct (M))) ((List.length (chgsL raw M K))))))) || (O.isSome && (!(belowL ((leadsOf (guess) ((fct (M))) ((List.length (chgsL raw M K))))) ((O.getD [])))))))), (Ty.pr (Ty.bool ((!(ringsB (M) ((chgsL raw M K)) ((leadsOf (guess) ((fct (M))) ((List.length (chgsL raw M K))))))) || (O.isSome && (!(belowL ((leadsOf (guess) ((fct (M))) ((List.length (chgsL raw M K))))) ((O.getD []))))))))] i_ Pr.any) ok18 rfl ⟨?_, ?_, ?_, ?_, ?_, ?_, ?_, ?_, ?_, ?_, ?_, ?_, ?_, ?_, ?_, trivial⟩ ?_
      · intro ax tx hs okx sm
        exact run_plain rfl (y_move (kp (sm 1 rfl) hs q102))
      · intro ax tx hs okx sm
        exact run_plain rfl (y_move (kp (sm 9 rfl) hs q101))
      · intro ax tx hs okx sm
        exact run_plain rfl (y_move (kp (sm 15 rfl) hs q105))
      · intro ax tx hs okx sm d0 d1 d2
        have e0 : At (Ty.nat M) tx ax (.tmp 81) := d0 rfl
        have e1 : At (Ty.lst Ty.ints (chgsL raw M K)) tx ax (.tmp 82) := d1 rfl
        have e2 : At (Ty.lst Ty.int (leadsOf (guess) ((fct (M))) ((List.length (chgsL raw M K))))) tx ax (.tmp 83) := d2 rfl
        exact run_plain rfl (y_call #[ax.eval (.tmp 81), ax.eval (.tmp 82), ax.eval (.tmp 83)] Try.func60 rfl rfl (by simp only [List.map_toArray, List.map_cons, List.map_nil]) (rings_fn (M) ((chgsL raw M K)) ((leadsOf (guess) ((fct (M))) ((List.length (chgsL raw M K))))) _ _ _ _ (cvi (σ := tx) (by first | omega | assumption) e0) e1 e2 (by first | omega | assumption) (by first | omega | assumption)))
      · intro ax tx hs okx sm d0
        have e3 : At (Ty.bool (ringsB (M) ((chgsL raw M K)) ((leadsOf (guess) ((fct (M))) ((List.length (chgsL raw M K))))))) tx ax (.tmp 84) := d0 rfl
        exact run_plain rfl (y_not e3)
      · intro ax tx hs okx sm d0 d1
        have e4 : At (Ty.bool (!(ringsB (M) ((chgsL raw M K)) ((leadsOf (guess) ((fct (M))) ((List.length (chgsL raw M K)))))))) tx ax (.tmp 85) := d0 rfl
        have e3 : At (Ty.bool (ringsB (M) ((chgsL raw M K)) ((leadsOf (guess) ((fct (M))) ((List.length (chgsL raw M K))))))) tx ax (.tmp 84) := d1 rfl
        exact run_plain rfl (y_move e4)
      · intro ax tx hs okx sm d0
        have e5 : At (Ty.bool (!(ringsB (M) ((chgsL raw M K)) ((leadsOf (guess) ((fct (M))) ((List.length (chgsL raw M K)))))))) tx ax (.tmp 86) := d0 rfl
        refine run_guard (T := (Ty.bool O.isSome)) okx rfl rfl (by decide) e5 (fun hg => ?_)
        exact y_move (kp (sm 13 rfl) hs q104)
      · intro ax tx hs okx sm d0 d1 d2
        have e6 : At (Ty.grd ((!(ringsB (M) ((chgsL raw M K)) ((leadsOf (guess) ((fct (M))) ((List.length (chgsL raw M K))))))) = false) (Ty.bool O.isSome)) tx ax (.tmp 87) := d0 rfl
        have e5 : At (Ty.bool (!(ringsB (M) ((chgsL raw M K)) ((leadsOf (guess) ((fct (M))) ((List.length (chgsL raw M K)))))))) tx ax (.tmp 86) := d1 rfl
        refine run_guard (T := (Ty.bool O.isSome)) okx rfl rfl (by decide) e5 (fun hg => ?_)
        exact y_move (e6.1 hg)
      · intro ax tx hs okx sm d0
        have e7 : At (Ty.grd ((!(ringsB (M) ((chgsL raw M K)) ((leadsOf (guess) ((fct (M))) ((List.length (chgsL raw M K))))))) = false) (Ty.bool O.isSome)) tx ax (.tmp 88) := d0 rfl
        refine run_guard2 (T := (Ty.lst Ty.int (leadsOf (guess) ((fct (M))) ((List.length (chgsL raw M K)))))) okx rfl rfl (by decide) e7 (fun hg => ?_)
        exact y_move (kp (sm 15 rfl) hs q105)
      · intro ax tx hs okx sm d0
        have e7 : At (Ty.grd ((!(ringsB (M) ((chgsL raw M K)) ((leadsOf (guess) ((fct (M))) ((List.length (chgsL raw M K))))))) = false) (Ty.bool O.isSome)) tx ax (.tmp 88) := d0 rfl
        refine run_guard2 (T := (Ty.lst Ty.int (O.getD []))) okx rfl rfl (by decide) e7 (fun hg => ?_)
        exact y_move (kp (sm 12 rfl) hs q103)
      · intro ax tx hs okx sm d0 d1 d2 d3
        have e8 : At (Ty.grd (((!(ringsB (M) ((chgsL raw M K)) ((leadsOf (guess) ((fct (M))) ((List.length (chgsL raw M K))))))) = false) ∧ O.isSome = true) (Ty.lst Ty.int (leadsOf (guess) ((fct (M))) ((List.length (chgsL raw M K)))))) tx ax (.tmp 89) := d0 rfl
        have e9 : At (Ty.grd (((!(ringsB (M) ((chgsL raw M K)) ((leadsOf (guess) ((fct (M))) ((List.length (chgsL raw M K))))))) = false) ∧ O.isSome = true) (Ty.lst Ty.int (O.getD []))) tx ax (.tmp 90) := d1 rfl
        have e7 : At (Ty.grd ((!(ringsB (M) ((chgsL raw M K)) ((leadsOf (guess) ((fct (M))) ((List.length (chgsL raw M K))))))) = false) (Ty.bool O.isSome)) tx ax (.tmp 88) := d2 rfl
        refine run_guard2 (T := (Ty.bool (belowL ((leadsOf (guess) ((fct (M))) ((List.length (chgsL raw M K))))) ((O.getD []))))) okx rfl rfl (by decide) e7 (fun hg => ?_)
        exact y_call #[ax.eval (.tmp 89), ax.eval (.tmp 90)] Try.func62 rfl rfl (by simp only [List.map_toArray, List.map_cons, List.map_nil]) (rBelow_fn ((leadsOf (guess) ((fct (M))) ((List.length (chgsL raw M K))))) ((O.getD [])) _ _ _ (e8.1 hg) (e9.1 hg) )
      · intro ax tx hs okx sm d0 d1
        have e10 : At (Ty.grd (((!(ringsB (M) ((chgsL raw M K)) ((leadsOf (guess) ((fct (M))) ((List.length (chgsL raw M K))))))) = false) ∧ O.isSome = true) (Ty.bool (belowL ((leadsOf (guess) ((fct (M))) ((List.length (chgsL raw M K))))) ((O.getD []))))) tx ax (.tmp 91) := d0 rfl
        have e7 : At (Ty.grd ((!(ringsB (M) ((chgsL raw M K)) ((leadsOf (guess) ((fct (M))) ((List.length (chgsL raw M K))))))) = false) (Ty.bool O.isSome)) tx ax (.tmp 88) := d1 rfl
        refine run_guard2 (T := (Ty.bool (!(belowL ((leadsOf (guess) ((fct (M))) ((List.length (chgsL raw M K))))) ((O.getD [])))))) okx rfl rfl (by decide) e7 (fun hg => ?_)
        exact y_not (e10.1 hg)
      · intro ax tx hs okx sm d0 d1 d2
        have e7 : At (Ty.grd ((!(ringsB (M) ((chgsL raw M K)) ((leadsOf (guess) ((fct (M))) ((List.length (chgsL raw M K))))))) = false) (Ty.bool O.isSome)) tx ax (.tmp 88) := d0 rfl
        have e11 : At (Ty.grd (((!(ringsB (M) ((chgsL raw M K)) ((leadsOf (guess) ((fct (M))) ((List.length (chgsL raw M K))))))) = false) ∧ O.isSome = true) (Ty.bool (!(belowL ((leadsOf (guess) ((fct (M))) ((List.length (chgsL raw M K))))) ((O.getD [])))))) tx ax (.tmp 92) := d1 rfl
        have e5 : At (Ty.bool (!(ringsB (M) ((chgsL raw M K)) ((leadsOf (guess) ((fct (M))) ((List.length (chgsL raw M K)))))))) tx ax (.tmp 86) := d2 rfl
        refine run_guard (T := (Ty.bool (O.isSome && (!(belowL ((leadsOf (guess) ((fct (M))) ((List.length (chgsL raw M K))))) ((O.getD []))))))) okx rfl rfl (by decide) e5 (fun hg => ?_)
        exact y_pick_and (e7.1 hg) (grd_part hg e11) rfl
      · intro ax tx hs okx sm d0 d1
        have e5 : At (Ty.bool (!(ringsB (M) ((chgsL raw M K)) ((leadsOf (guess) ((fct (M))) ((List.length (chgsL raw M K)))))))) tx ax (.tmp 86) := d0 rfl
        have e12 : At (Ty.grd ((!(ringsB (M) ((chgsL raw M K)) ((leadsOf (guess) ((fct (M))) ((List.length (chgsL raw M K))))))) = false) (Ty.bool (O.isSome && (!(belowL ((leadsOf (guess) ((fct (M))) ((List.length (chgsL raw M K))))) ((O.getD []))))))) tx ax (.tmp 93) := d1 rfl
        exact run_plain rfl (y_pick_or e5 rfl e12)
      · intro ax tx hs okx sm d0 d1 d2 d3 d4 d5 d6 d7 d8 d9 d10 d11 d12 d13 d14 d15
        have e13 : At (Ty.bool ((!(ringsB (M) ((chgsL raw M K)) ((leadsOf (guess) ((fct (M))) ((List.length (chgsL raw M K))))))) || (O.isSome && (!(belowL ((leadsOf (guess) ((fct (M))) ((List.length (chgsL raw M K))))) ((O.getD []))))))) tx ax (.tmp 94) := d0 rfl
        have e10 : At (Ty.grd (((!(ringsB (M) ((chgsL raw M K)) ((leadsOf (guess) ((fct (M))) ((List.length (chgsL raw M K))))))) = false) ∧ O.isSome = true) (Ty.bool (belowL ((leadsOf (guess) ((fct (M))) ((List.length (chgsL raw M K))))) ((O.getD []))))) tx ax (.tmp 91) := d1 rfl
        have e0 : At (Ty.nat M) tx ax (.tmp 81) := d2 rfl
        have e1 : At (Ty.lst Ty.ints (chgsL raw M K)) tx ax (.tmp 82) := d3 rfl
        have e2 : At (Ty.lst Ty.int (leadsOf (guess) ((fct (M))) ((List.length (chgsL raw M K))))) tx ax (.tmp 83) := d4 rfl
        have e3 : At (Ty.bool (ringsB (M) ((chgsL raw M K)) ((leadsOf (guess) ((fct (M))) ((List.length (chgsL raw M K))))))) tx ax (.tmp 84) := d5 rfl
        have e4 : At (Ty.bool (!(ringsB (M) ((chgsL raw M K)) ((leadsOf (guess) ((fct (M))) ((List.length (chgsL raw M K)))))))) tx ax (.tmp 85) := d6 rfl
        have e5 : At (Ty.bool (!(ringsB (M) ((chgsL raw M K)) ((leadsOf (guess) ((fct (M))) ((List.length (chgsL raw M K)))))))) tx ax (.tmp 86) := d7 rfl
        have e6 : At (Ty.grd ((!(ringsB (M) ((chgsL raw M K)) ((leadsOf (guess) ((fct (M))) ((List.length (chgsL raw M K))))))) = false) (Ty.bool O.isSome)) tx ax (.tmp 87) := d8 rfl
        have e7 : At (Ty.grd ((!(ringsB (M) ((chgsL raw M K)) ((leadsOf (guess) ((fct (M))) ((List.length (chgsL raw M K))))))) = false) (Ty.bool O.isSome)) tx ax (.tmp 88) := d9 rfl
        have e8 : At (Ty.grd (((!(ringsB (M) ((chgsL raw M K)) ((leadsOf (guess) ((fct (M))) ((List.length (chgsL raw M K))))))) = false) ∧ O.isSome = true) (Ty.lst Ty.int (leadsOf (guess) ((fct (M))) ((List.length (chgsL raw M K)))))) tx ax (.tmp 89) := d10 rfl
        have e9 : At (Ty.grd (((!(ringsB (M) ((chgsL raw M K)) ((leadsOf (guess) ((fct (M))) ((List.length (chgsL raw M K))))))) = false) ∧ O.isSome = true) (Ty.lst Ty.int (O.getD []))) tx ax (.tmp 90) := d11 rfl
        have e11 : At (Ty.grd (((!(ringsB (M) ((chgsL raw M K)) ((leadsOf (guess) ((fct (M))) ((List.length (chgsL raw M K))))))) = false) ∧ O.isSome = true) (Ty.bool (!(belowL ((leadsOf (guess) ((fct (M))) ((List.length (chgsL raw M K))))) ((O.getD [])))))) tx ax (.tmp 92) := d13 rfl
        have e12 : At (Ty.grd ((!(ringsB (M) ((chgsL raw M K)) ((leadsOf (guess) ((fct (M))) ((List.length (chgsL raw M K))))))) = false) (Ty.bool (O.isSome && (!(belowL ((leadsOf (guess) ((fct (M))) ((List.length (chgsL raw M K))))) ((O.getD []))))))) tx ax (.tmp 93) := d14 rfl
        exact run_plain rfl (y_assign e13)
      intro a20 s18 D16
      have ok19 := D16.ok
      have F20 := F19.step0 D16.stp
      have q106 : At (Ty.bool ((!(ringsB (M) ((chgsL raw M K)) ((leadsOf (guess) ((fct (M))) ((List.length (chgsL raw M K))))))) || (O.isSome && (!(belowL ((leadsOf (guess) ((fct (M))) ((List.length (chgsL raw M K))))) ((O.getD []))))))) s18 a20 (.tmp 8) := D16.done 14
      clear D16
      refine tn ?_
      refine wp_ret ?_
      exact retL1 rfl ok19 F20 (cvb (by (exact hrf.2.2.2 _)) q106)


end Go.Proofs.Ytlhnpkaohfoicaa
