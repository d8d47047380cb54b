/- The functions that the law TopTruth reaches, each by its contract. Part 5. -/
import Derived.Test.YtbilebfnanlgfaaTopTruthW4
namespace Go.Proofs.Ytbilebfnanlgfaa
open Go.KL

set_option maxHeartbeats 4000000 in
set_option maxRecDepth 100000 in
theorem byHeads_fn (nm : ByteArray) (n : Int) (l : List (List Int)) (cs : List BCall) (leads : List Int) (σ : GW)  (v0 v1 v2 : Value) (hv0 : Ty.has (Ty.agg [(Ty.val (Value.string nm)), (Ty.int n), (Ty.lst Ty.ints l)]) σ v0) (hv1 : Ty.has (Ty.lstc 2 callC cs) σ v1) (hv2 : Ty.has (Ty.lst Ty.int leads) σ v2)  (hnm : nm.size ≤ 1099511627776) (hn : -9223372036854775808 ≤ n ∧ n ≤ 9223372036854775807) :
    FnC Try.prog 24 #[v0, v1, v2] σ (Ty.tup2 (Ty.bool (if touchMay nm n l cs leads = 0 then (oneB cs leads && ((!(sfTo ((fromL (roundsL n.toNat) l).take l.length) ((fromL (roundsL n.toNat) l).take l.length).length ((fromL (roundsL n.toNat) l).take l.length).length)) && bhTo (addS [0] (onceL (enTo ((fromL (roundsL n.toNat) l).take l.length) ((fromL (roundsL n.toNat) l).take l.length).length ((fromL (roundsL n.toNat) l).take l.length).length))) (tHds n.toNat l cs leads leads.length) leads.length)) else false)) (Ty.int (if touchMay nm n l cs leads = 0 then (if oneB cs leads = true then 0 else 11) else touchMay nm n l cs leads))) := by
 refine fn_intro0 Try.func24 rfl Try.ntmps24 (Nat.le_of_ble_eq_true rfl) (fun s0 a0 hle F0 ok0 hargs => ?_)
 have p0 : At (Ty.agg [(Ty.val (Value.string nm)), (Ty.int n), (Ty.lst Ty.ints l)]) s0 a0 (.tmp 0) := by have e := hargs 0 _ rfl; show Ty.has _ _ _; rw [e]; exact Ty.up _ hle hv0
 have p1 : At (Ty.lstc 2 callC cs) s0 a0 (.tmp 1) := by have e := hargs 1 _ rfl; show Ty.has _ _ _; rw [e]; exact Ty.up _ hle hv1
 have b1 := sl_le p1
 have p2 : At (Ty.lst Ty.int leads) s0 a0 (.tmp 2) := by have e := hargs 2 _ rfl; show Ty.has _ _ _; rw [e]; exact Ty.up _ hle hv2
 have b2 := sl_le p2
 clear hargs
 refine wp_seq ?_
 refine reg (a := a0) (σ := s0) rfl (fun i_ => List.getD [(Ty.pr (Ty.ref [(Ty.val (Value.string nm)), (Ty.int n), (Ty.lst Ty.ints l)])), (Ty.pr (Ty.bool false)), (Ty.pr (Ty.int (0 : Int)))] i_ Pr.any) ok0 rfl ⟨?_, ?_, ?_, trivial⟩ ?_
 · intro ax tx hs okx sm
   exact run_plain rfl (y_boxagg (kp (sm 0 rfl) hs p0))
 · intro ax tx hs okx sm
   exact run_plain rfl (y_assign rfl)
 · intro ax tx hs okx sm d0
   exact run_plain rfl (y_assign rfl)
 intro a1 s1 D1
 have ok1 := D1.ok
 have F1 := F0.step0 D1.stp
 have q1 := D1.kt p1 rfl
 have q2 := D1.kt p2 rfl
 have q3 : At (Ty.ref [(Ty.val (Value.string nm)), (Ty.int n), (Ty.lst Ty.ints l)]) s1 a1 (.tmp 3) := D1.done 0
 clear D1
 refine tn ?_
 refine wp_seq ?_
 refine reg (a := a1) (σ := s1) rfl (fun i_ => List.getD [(Ty.pr (Ty.agg [(Ty.val (Value.string nm)), (Ty.int n), (Ty.lst Ty.ints l)])), (Ty.pr (Ty.lstc 2 callC cs)), (Ty.pr (Ty.lst Ty.int leads)), (Ty.pr (Ty.tup2 (Ty.lst Ty.ints (if touchMay nm n l cs leads = 0 then (tHds n.toNat l cs leads leads.length) else [])) (Ty.int (touchMay nm n l cs leads)))), (Ty.pr (Ty.tup2 (Ty.lst Ty.ints (if touchMay nm n l cs leads = 0 then (tHds n.toNat l cs leads leads.length) else [])) (Ty.int (touchMay nm n l cs leads)))), (Ty.pr (Ty.lst Ty.ints (if touchMay nm n l cs leads = 0 then (tHds n.toNat l cs leads leads.length) else []))), (Ty.pr (Ty.int (touchMay nm n l cs leads))), (Ty.pr (Ty.lst Ty.ints (if touchMay nm n l cs leads = 0 then (tHds n.toNat l cs leads leads.length) else []))), (Ty.pr (Ty.int (touchMay nm n l cs leads)))] i_ Pr.any) ok1 rfl ⟨?_, ?_, ?_, ?_, ?_, ?_, ?_, ?_, ?_, trivial⟩ ?_
 · intro ax tx hs okx sm
   exact run_plain rfl (y_loadagg Try.underlying31 Try.inf31 (kp (sm 3 rfl) hs q3))
 · intro ax tx hs okx sm
   exact run_plain rfl (y_move (kp (sm 1 rfl) hs q1))
 · intro ax tx hs okx sm
   exact run_plain rfl (y_move (kp (sm 2 rfl) hs q2))
 · intro ax tx hs okx sm d0 d1 d2
   have e0 := ed d0 rfl rfl rfl
   have e1 := ed d1 rfl rfl rfl
   have e2 := ed d2 rfl rfl rfl
   exact run_plain rfl (y_call #[ax.eval (.tmp 25), ax.eval (.tmp 26), ax.eval (.tmp 27)] Try.func23 rfl rfl (by simp only [List.map_toArray, List.map_cons, List.map_nil]) (heads_fn (nm) (n) (l) (cs) (leads) _ _ _ _ e0 e1 e2 (by first | omega | assumption) (by first | omega | assumption)))
 · intro ax tx hs okx sm d0
   have e3 := ed d0 rfl rfl rfl
   exact run_plain rfl (y_move e3)
 · intro ax tx hs okx sm d0
   have e4 := ed d0 rfl rfl rfl
   exact run_plain rfl (y_ext2_0 e4)
 · intro ax tx hs okx sm d0 d1
   have e4 := ed d0 rfl rfl rfl
   exact run_plain rfl (y_ext2_1 e4)
 · intro ax tx hs okx sm d0 d1 d2 d3 d4 d5 d6 d7 d8
   have e5 := ed d0 rfl rfl rfl
   exact run_plain rfl (y_assign e5)
 · intro ax tx hs okx sm d0 d1 d2 d3 d4 d5 d6 d7 d8 d9
   have e6 := ed d0 rfl rfl rfl
   exact run_plain rfl (y_assign e6)
 intro a2 s2 D2
 have ok2 := D2.ok
 have F2 := F1.step0 D2.stp
 have q4 := D2.kt q1 rfl
 have q5 := D2.kt q2 rfl
 have q6 := D2.kt q3 rfl
 have q7 : At (Ty.lst Ty.ints (if touchMay nm n l cs leads = 0 then (tHds n.toNat l cs leads leads.length) else [])) s2 a2 (.tmp 8) := D2.done 7
 have q8 : At (Ty.int (touchMay nm n l cs leads)) s2 a2 (.tmp 9) := D2.done 8
 clear D2
 refine tn ?_
 refine wp_seq ?_
 refine wp_seq ?_
 refine reg (a := a2) (σ := s2) rfl (fun i_ => List.getD [(Ty.pr (Ty.int (touchMay nm n l cs leads))), (Ty.pr (Ty.bool (decide ((touchMay nm n l cs leads) ≠ (0 : Int)))))] i_ Pr.any) ok2 rfl ⟨?_, ?_, trivial⟩ ?_
 · intro ax tx hs okx sm
   exact run_plain rfl (y_move (kp (sm 9 rfl) hs q8))
 · intro ax tx hs okx sm d0
   have e0 := ed d0 rfl rfl rfl
   exact run_plain rfl (y_neq e0 rfl)
 intro a3 s3 D3
 have ok3 := D3.ok
 have F3 := F2.step0 D3.stp
 have q9 := D3.kt q4 rfl
 have q10 := D3.kt q5 rfl
 have q11 := D3.kt q6 rfl
 have q12 := D3.kt q7 rfl
 have q13 := D3.kt q8 rfl
 have q14 : At (Ty.bool (decide ((touchMay nm n l cs leads) ≠ (0 : Int)))) s3 a3 (.tmp 32) := D3.done 1
 clear D3
 refine tn ?_
 refine cond_p (p := ((touchMay nm n l cs leads) ≠ (0 : Int))) q14 (fun c1 => ?_) (fun c1 => ?_)
 ·
  refine wp_seq ?_
  refine reg (a := a3) (σ := s3) rfl (fun i_ => List.getD [(Ty.pr (Ty.int (touchMay nm n l cs leads))), (Ty.pr (Ty.bool false)), (Ty.pr (Ty.int (touchMay nm n l cs leads)))] i_ Pr.any) ok3 rfl ⟨?_, ?_, ?_, trivial⟩ ?_
  · intro ax tx hs okx sm d0
    exact run_plain rfl (y_move (kp (sm 9 rfl) hs q13))
  · intro ax tx hs okx sm d0
    exact run_plain rfl (y_assign rfl)
  · intro ax tx hs okx sm d0 d1 d2 d3
    have e0 := ed d0 rfl rfl rfl
    exact run_plain rfl (y_assign e0)
  intro a4 s4 D4
  have ok4 := D4.ok
  have F4 := F3.step0 D4.stp
  have q15 : At (Ty.bool false) s4 a4 (.tmp 6) := D4.done 1
  have q16 : At (Ty.int (touchMay nm n l cs leads)) s4 a4 (.tmp 7) := D4.done 2
  clear D4
  refine tn ?_
  refine wp_ret ?_
  refine tr ?_
  exact retL2 rfl ok4 F4 (hasT2 (cvb (by (rw [if_neg c1])) q15) (cvi (by (rw [if_neg c1])) q16))
 ·
  have h0 := Classical.not_not.1 c1; obtain ⟨hok, hnn, hlo, hlh, hin, hlim⟩ := touchMay_ok h0; have hl1 := hok.meth.l1; have hl2 := hok.meth.l2; have hn1 := hok.meth.n1; have hn2 := hok.meth.n2; have hm0 : methMay nm n l = 0 := (by have h_ := hok.meth.may; rwa [hnn] at h_); obtain ⟨HD, hHD⟩ : ∃ HD, HD = (tHds n.toNat l cs leads leads.length) := ⟨_, rfl⟩; have hHl : HD.length = leads.length := (by rw [hHD]; exact tHds_len _ _ _ _ _); have hHr : ∀ i, i < HD.length → IsRow (HD.getD i []) ∧ (HD.getD i []).length = n.toNat := (fun i hi => by (rw [hHD, tHds_get (by omega)]; exact tHd_row hok hin i (by omega))); obtain ⟨F, hF⟩ : ∃ F, F = (onceL (enTo ((fromL (roundsL n.toNat) l).take l.length) ((fromL (roundsL n.toNat) l).take l.length).length ((fromL (roundsL n.toNat) l).take l.length).length)) := ⟨_, rfl⟩; obtain ⟨SF, hSF⟩ : ∃ SF, SF = (sfTo ((fromL (roundsL n.toNat) l).take l.length) ((fromL (roundsL n.toNat) l).take l.length).length ((fromL (roundsL n.toNat) l).take l.length).length) := ⟨_, rfl⟩; have hFl : F.length ≤ 40000 := (by rw [hF]; exact heads_le (by rw [List.length_take]; omega)); have hFr : ∀ i, i < F.length → (F.getD i []).length ≤ 12 := (fun i hi => by have h_ := heads_row hok.meth rfl _ (by rw [← hF]; exact mem_getDD [] hi); omega)
  have q17 : At (Ty.lst Ty.ints HD) s3 a3 (.tmp 8) := cvt (T := (Ty.lst Ty.ints (if touchMay nm n l cs leads = 0 then (tHds n.toNat l cs leads leads.length) else []))) (U := (Ty.lst Ty.ints HD)) (by rw [if_pos h0, hHD]) q12
  refine wp_skip ?_
  refine tn ?_
  refine wp_seq ?_
  refine wp_seq ?_
  refine reg (a := a3) (σ := s3) rfl (fun i_ => List.getD [(Ty.pr (Ty.lst Ty.int leads)), (Ty.pr (Ty.nat (List.length leads))), (Ty.pr (Ty.int (0 : Int)))] i_ Pr.any) ok3 rfl ⟨?_, ?_, ?_, trivial⟩ ?_
  · intro ax tx hs okx sm
    exact run_plain rfl (y_move (kp (sm 2 rfl) hs q10))
  · intro ax tx hs okx sm d0
    have e0 := ed d0 rfl rfl rfl
    exact run_plain rfl (y_len Try.underlying23 e0)
  · intro ax tx hs okx sm
    exact run_plain rfl (y_move rfl)
  intro a5 s5 D5
  have ok5 := D5.ok
  have F5 := F3.step0 D5.stp
  have q18 := D5.kt q9 rfl
  have q19 := D5.kt q11 rfl
  have q20 := D5.kt q17 rfl
  have q21 : At (Ty.lst Ty.int leads) s5 a5 (.tmp 34) := D5.done 0
  have q22 : At (Ty.nat (List.length leads)) s5 a5 (.tmp 35) := D5.done 1
  have q23 : At (Ty.int (0 : Int)) s5 a5 (.tmp 36) := D5.done 2
  clear D5
  refine tn ?_
  refine wp_block ?_
  refine loop (fun n1 a6 w1 => ∃ (t1 : GW) (k : Nat), t1.w = w1 ∧ FromL [] s0 t1 ∧ Ok 98 a6 ∧ At (Ty.nat k) t1 a6 (.tmp 36) ∧ At (Ty.lstc 2 callC cs) t1 a6 (.tmp 1) ∧ At (Ty.ref [(Ty.val (Value.string nm)), (Ty.int n), (Ty.lst Ty.ints l)]) t1 a6 (.tmp 3) ∧ At (Ty.lst Ty.ints HD) t1 a6 (.tmp 8) ∧ At (Ty.lst Ty.int leads) t1 a6 (.tmp 34) ∧ At (Ty.nat (List.length leads)) t1 a6 (.tmp 35) ∧ (k ≤ leads.length) ∧ (∀ j, j < k → (cs.getD (leads.getD j 0).toNat D0).2.length < 2) ∧ n1 = leads.length - k) (leads.length - (0)) ?_ ?_
  ·
   exact ⟨s5, 0, rfl, F5, ok5, (cvi (by (first | rfl | omega | (simp_all; done) | (simp_all; omega))) q23), q18, q19, q20, q21, q22, by omega, fun j hj => absurd hj (Nat.not_lt_zero j), rfl⟩
  ·
   rintro n2 a7 w2 ⟨t2, k, rfl, F6, ok6, q24, q25, q26, q27, q28, q29, hk, ho, rfl⟩
   refine wp_seq ?_
   refine reg (a := a7) (σ := t2) rfl (fun i_ => List.getD [(Ty.pr (Ty.bool (decide (((k : Nat) : Int) < (((List.length leads) : Nat) : Int)))))] i_ Pr.any) ok6 rfl ⟨?_, trivial⟩ ?_
   · intro ax tx hs okx sm
     exact run_plain rfl (y_lss (kp (sm 36 rfl) hs q24) (kp (sm 35 rfl) hs q29))
   intro a8 s6 D6
   have ok7 := D6.ok
   have F7 := F6.step0 D6.stp
   have q30 := D6.kt q24 rfl
   have q31 := D6.kt q25 rfl
   have q32 := D6.kt q26 rfl
   have q33 := D6.kt q27 rfl
   have q34 := D6.kt q28 rfl
   have q35 := D6.kt q29 rfl
   have q36 : At (Ty.bool (decide (((k : Nat) : Int) < (((List.length leads) : Nat) : Int)))) s6 a8 (.tmp 37) := D6.done 0
   clear D6
   refine tn ?_
   refine wp_seq ?_
   refine cond_p (p := (((k : Nat) : Int) < (((List.length leads) : Nat) : Int))) q36 (fun c2 => ?_) (fun c2 => ?_)
   ·
    obtain ⟨hk0, hkc⟩ := hin k (by omega)
    refine wp_skip ?_
    refine tn ?_
    refine wp_seq ?_
    refine wp_block ?_
    refine wp_seq ?_
    refine reg (a := a8) (σ := s6) rfl (fun i_ => List.getD [(Ty.pr (Ty.ref [(Ty.int (leads.getD k 0))])), (Ty.pr (Ty.int (leads.getD k 0))), (Ty.pr (Ty.int (leads.getD k 0)))] i_ Pr.any) ok7 rfl ⟨?_, ?_, ?_, trivial⟩ ?_
    · intro ax tx hs okx sm
      exact run_plain rfl (y_index1 Try.underlying23 Try.inf3 (kp (sm 34 rfl) hs q34) (kp (sm 36 rfl) hs q30) (by omega) (lst_get Ty.int leads 0 k (by omega)))
    · intro ax tx hs okx sm d0
      have e0 := ed d0 rfl rfl rfl
      exact run_plain rfl (y_load Try.underlying3 rfl e0 rfl)
    · intro ax tx hs okx sm d0 d1 d2
      have e1 := ed d0 rfl rfl rfl
      exact run_plain rfl (y_assign e1)
    intro a9 s7 D7
    have ok8 := D7.ok
    have F8 := F7.step0 D7.stp
    have q37 := D7.kt q30 rfl
    have q38 := D7.kt q31 rfl
    have q39 := D7.kt q32 rfl
    have q40 := D7.kt q33 rfl
    have q41 := D7.kt q34 rfl
    have q42 := D7.kt q35 rfl
    have q43 : At (Ty.int (leads.getD k 0)) s7 a9 (.tmp 11) := D7.done 2
    clear D7
    refine tn ?_
    refine wp_seq ?_
    refine reg (a := a9) (σ := s7) rfl (fun i_ => List.getD [(Ty.pr (Ty.lstc 2 callC cs)), (Ty.pr (Ty.int (leads.getD k 0))), (Ty.pr (Ty.ref [(Ty.val (Value.int .i32 ((cs.getD ((leads.getD k 0)).toNat D0)).1)), (Ty.lst Ty.ints ((cs.getD ((leads.getD k 0)).toNat D0)).2)])), (Ty.pr (Ty.ref [(Ty.lst Ty.ints ((cs.getD ((leads.getD k 0)).toNat D0)).2)])), (Ty.pr (Ty.lst Ty.ints ((cs.getD ((leads.getD k 0)).toNat D0)).2)), (Ty.pr (Ty.nat (List.length ((cs.getD ((leads.getD k 0)).toNat D0)).2))), (Ty.pr (Ty.bool (decide ((1 : Int) < (((List.length ((cs.getD ((leads.getD k 0)).toNat D0)).2) : Nat) : Int)))))] i_ Pr.any) ok8 rfl ⟨?_, ?_, ?_, ?_, ?_, ?_, ?_, trivial⟩ ?_
    · intro ax tx hs okx sm
      exact run_plain rfl (y_move (kp (sm 1 rfl) hs q38))
    · intro ax tx hs okx sm
      exact run_plain rfl (y_move (kp (sm 11 rfl) hs q43))
    · intro ax tx hs okx sm d0 d1
      have e0 := ed d0 rfl rfl rfl
      have e1 := ed d1 rfl rfl rfl
      exact run_plain rfl (y_indexc (i := (leads.getD k 0)) D0 Try.underlying22 Try.inf56 e0 e1 (by omega) (by omega) (by decide) (fun _ => rfl))
    · intro ax tx hs okx sm d0
      have e2 := ed d0 rfl rfl rfl
      exact run_plain rfl (y_field Try.fld56_1 Try.inf29 (by decide) e2 rfl)
    · intro ax tx hs okx sm d0
      have e3 := ed d0 rfl rfl rfl
      exact run_plain rfl (y_load Try.underlying29 rfl e3 rfl)
    · intro ax tx hs okx sm d0
      have e4 := ed d0 rfl rfl rfl
      exact run_plain rfl (y_len Try.underlying29 e4)
    · intro ax tx hs okx sm d0
      have e5 := ed d0 rfl rfl rfl
      exact run_plain rfl (y_gtr e5 rfl)
    intro a10 s8 D8
    have ok9 := D8.ok
    have F9 := F8.step0 D8.stp
    have q44 := D8.kt q37 rfl
    have q45 := D8.kt q38 rfl
    have q46 := D8.kt q39 rfl
    have q47 := D8.kt q40 rfl
    have q48 := D8.kt q41 rfl
    have q49 := D8.kt q42 rfl
    have q50 : At (Ty.bool (decide ((1 : Int) < (((List.length ((cs.getD ((leads.getD k 0)).toNat D0)).2) : Nat) : Int)))) s8 a10 (.tmp 46) := D8.done 6
    clear D8
    refine tn ?_
    refine cond_p (p := ((1 : Int) < (((List.length ((cs.getD ((leads.getD k 0)).toNat D0)).2) : Nat) : Int))) q50 (fun c3 => ?_) (fun c3 => ?_)
    ·
     have hno : oneB cs leads = false := one_no (show k < leads.length by omega) (by omega)
     refine wp_seq ?_
     refine reg (a := a10) (σ := s8) rfl (fun i_ => List.getD [(Ty.pr (Ty.bool false)), (Ty.pr (Ty.int (11 : Int)))] i_ Pr.any) ok9 rfl ⟨?_, ?_, trivial⟩ ?_
     · intro ax tx hs okx sm
       exact run_plain rfl (y_assign rfl)
     · intro ax tx hs okx sm d0 d1
       exact run_plain rfl (y_assign rfl)
     intro a11 s9 D9
     have ok10 := D9.ok
     have F10 := F9.step0 D9.stp
     have q51 : At (Ty.bool false) s9 a11 (.tmp 6) := D9.done 0
     have q52 : At (Ty.int (11 : Int)) s9 a11 (.tmp 7) := D9.done 1
     clear D9
     refine tn ?_
     refine wp_ret ?_
     refine br ?_
     refine tr ?_
     refine tr ?_
     refine br ?_
     refine tr ?_
     exact retL2 rfl ok10 F10 (hasT2 (cvb (by (rw [if_pos h0, hno, Bool.false_and])) q51) (cvi (by (rw [if_pos h0, if_neg (by rw [hno]; decide)])) q52))
    ·
     refine wp_skip ?_
     refine bn ?_
     refine tn ?_
     refine reg (a := a10) (σ := s8) rfl (fun i_ => List.getD [(Ty.pr (Ty.nat (k + 1))), (Ty.pr (Ty.nat (k + 1)))] i_ Pr.any) ok9 rfl ⟨?_, ?_, trivial⟩ ?_
     · intro ax tx hs okx sm
       exact run_plain rfl ((y_add (kp (sm 36 rfl) hs q44) rfl (w64 (by omega) (by omega))).mono (fun τ _ h => cvi (σ := τ) (by first | omega | exact (Int.natCast_mul _ _).symm) h))
     · intro ax tx hs okx sm d0
       have e0 := ed d0 rfl rfl rfl
       exact run_plain rfl (y_move e0)
     intro a12 s10 D10
     have ok11 := D10.ok
     have F11 := F9.step0 D10.stp
     have q53 := D10.kt q45 rfl
     have q54 := D10.kt q46 rfl
     have q55 := D10.kt q47 rfl
     have q56 := D10.kt q48 rfl
     have q57 := D10.kt q49 rfl
     have q58 : At (Ty.nat (k + 1)) s10 a12 (.tmp 36) := D10.done 1
     clear D10
     exact tn ⟨leads.length - ((k+1)), by omega, s10, (k+1), rfl, F11, ok11, (cvi (by (first | rfl | omega | (simp_all; done) | (simp_all; omega))) q58), q53, q54, q55, q56, q57, by omega, fun j hj => by (by_cases e : j = k; subst e; omega; exact ho j (by omega)), rfl⟩
   ·
    have hone : oneB cs leads = true := one_yes (fun j hj => ho j (by omega))
    refine wp_exit ?_
    refine tx ?_
    refine tx ?_
    refine bx ?_
    refine tn ?_
    refine wp_seq ?_
    refine reg (a := a8) (σ := s6) rfl (fun i_ => List.getD [(Ty.pr (Ty.agg [(Ty.val (Value.string nm)), (Ty.int n), (Ty.lst Ty.ints l)])), (Ty.pr (Ty.tup3 (Ty.lst Ty.ints F) (Ty.bool SF) (Ty.int (0 : Int)))), (Ty.pr (Ty.tup3 (Ty.lst Ty.ints F) (Ty.bool SF) (Ty.int (0 : Int)))), (Ty.pr (Ty.lst Ty.ints F)), (Ty.pr (Ty.bool SF)), (Ty.pr (Ty.int (0 : Int))), (Ty.pr (Ty.lst Ty.ints F)), (Ty.pr (Ty.bool SF)), (Ty.pr (Ty.int (0 : Int)))] i_ Pr.any) ok7 rfl ⟨?_, ?_, ?_, ?_, ?_, ?_, ?_, ?_, ?_, trivial⟩ ?_
    · intro ax tx hs okx sm
      exact run_plain rfl (y_loadagg Try.underlying31 Try.inf31 (kp (sm 3 rfl) hs q32))
    · intro ax tx hs okx sm d0
      have e0 := ed d0 rfl rfl rfl
      exact run_plain rfl ((y_call #[ax.eval (.tmp 49)] Try.func25 rfl rfl (by simp only [List.map_toArray, List.map_cons, List.map_nil]) (false_fn (nm) (n) (l) _ _ e0 (by first | omega | assumption) (by first | omega | assumption))).mono (fun τ _ h => cvt (σ := τ) (T := (Ty.tup3 (Ty.lst Ty.ints (if methMay nm n l = 0 then (onceL (enTo ((fromL (roundsL n.toNat) l).take l.length) ((fromL (roundsL n.toNat) l).take l.length).length ((fromL (roundsL n.toNat) l).take l.length).length)) else [])) (Ty.bool (if methMay nm n l = 0 then (sfTo ((fromL (roundsL n.toNat) l).take l.length) ((fromL (roundsL n.toNat) l).take l.length).length ((fromL (roundsL n.toNat) l).take l.length).length) else false)) (Ty.int (methMay nm n l)))) (U := (Ty.tup3 (Ty.lst Ty.ints F) (Ty.bool SF) (Ty.int (0 : Int)))) (by rw [if_pos hm0, if_pos hm0, hm0, hF, hSF]) h))
    · intro ax tx hs okx sm d0
      have e1 := ed d0 rfl rfl rfl
      exact run_plain rfl (y_move e1)
    · intro ax tx hs okx sm d0
      have e2 := ed d0 rfl rfl rfl
      exact run_plain rfl (y_ext3_0 e2)
    · intro ax tx hs okx sm d0 d1
      have e2 := ed d0 rfl rfl rfl
      exact run_plain rfl (y_ext3_1 e2)
    · intro ax tx hs okx sm d0 d1
      have e2 := ed d0 rfl rfl rfl
      exact run_plain rfl (y_ext3_2 e2)
    · intro ax tx hs okx sm d0 d1 d2 d3 d4 d5 d6 d7
      have e3 := ed d0 rfl rfl rfl
      exact run_plain rfl (y_assign e3)
    · intro ax tx hs okx sm d0 d1 d2 d3 d4 d5 d6 d7 d8
      have e4 := ed d0 rfl rfl rfl
      exact run_plain rfl (y_assign e4)
    · intro ax tx hs okx sm d0 d1 d2 d3 d4 d5 d6 d7 d8 d9
      have e5 := ed d0 rfl rfl rfl
      exact run_plain rfl (y_assign e5)
    intro a13 s11 D11
    have ok12 := D11.ok
    have F12 := F7.step0 D11.stp
    have q59 := D11.kt q33 rfl
    have q60 : At (Ty.lst Ty.ints F) s11 a13 (.tmp 12) := D11.done 6
    have q61 : At (Ty.bool SF) s11 a13 (.tmp 13) := D11.done 7
    clear D11
    refine tn ?_
    refine wp_seq ?_
    refine reg2 (a := a13) (σ := s11) rfl 1 (fun i_ => List.getD [(Pr.ownm Ty.int kI 6 (fun _ => none : Int → Option Int))] i_ Pr.any) ok12 rfl (by decide) rfl ⟨?_, trivial⟩ ?_
    · intro ax tx hs okx sm
      exact run_plain rfl (y_makemap 6)
    intro a14 s12 D12
    have ok13 := D12.ok
    have F13 := F12.step0 D12.stp
    have q62 := D12.kt q59 rfl
    have q63 := D12.kt q60 rfl
    have q64 := D12.kt q61 rfl
    obtain ⟨x1, hx1⟩ : ∃ x, a14.eval (.tmp 54) = x := ⟨_, rfl⟩
    have q65 : At (Ty.val x1) s12 a14 (.tmp 54) := hx1
    have o1 : OwnM Ty.int kI s12 6 x1 (fun _ => none : Int → Option Int) := al2 (R := (Pr.ownm Ty.int kI 6 (fun _ => none : Int → Option Int))) hx1 (D12.done 0 (by decide))
    clear D12
    refine tailL0 (L := [6]) (R := (fun _ τ => OwnM Ty.int kI τ 6 x1 (fun x_ => if x_ = (0 : Int) then some (1 : Int) else (fun _ => none : Int → Option Int) x_))) rfl rfl (YldM.toL (m_mapins (i := (0 : Int)) Try.underlying86 (keyInt Try.underlying3) (by decide) o1 q65 rfl rfl)) (fun v1 s13 hs1 r1 => ?_)
    have F14 := F13.stepL hs1 (by decide)
    have q66 := kpL hs1 (by decide) rfl q62
    have q67 := kpL hs1 (by decide) rfl q63
    have q68 := kpL hs1 (by decide) rfl q64
    have q69 := kpL hs1 (by decide) rfl q65
    have o2 : OwnM Ty.int kI s13 6 x1 (fun x_ => if x_ = (0 : Int) then some (1 : Int) else (fun _ => none : Int → Option Int) x_) := r1
    clear r1
    refine tailL (L := []) (R := (fun v τ => Pr.has (Ty.pr (Ty.val x1)) τ v)) rfl rfl (by decide) ok13 (Yld.toL (y_move q69)) (fun a15 s14 hs2 ok14 r2 sm1 => ?_)
    have F15 := F14.stepL hs2 (by decide)
    have q71 := kpL hs2 (by decide) (sm1 8 (by decide)) q66
    have q72 := kpL hs2 (by decide) (sm1 12 (by decide)) q67
    have q73 := kpL hs2 (by decide) (sm1 13 (by decide)) q68
    have o3 := OwnM.keepL o2 hs2 (by decide) (by decide)
    have q74 : At (Ty.val x1) s14 a15 (.tmp 55) := r2
    clear r2
    refine tailL (L := []) (R := (fun v τ => Pr.has (Ty.pr (Ty.val x1)) τ v)) rfl rfl (by decide) ok14 (Yld.toL (y_assign q74)) (fun a16 s15 hs3 ok15 r3 sm2 => ?_)
    have F16 := F15.stepL hs3 (by decide)
    have q75 := kpL hs3 (by decide) (sm2 8 (by decide)) q71
    have q76 := kpL hs3 (by decide) (sm2 12 (by decide)) q72
    have q77 := kpL hs3 (by decide) (sm2 13 (by decide)) q73
    have o4 := OwnM.keepL o3 hs3 (by decide) (by decide)
    have q78 : At (Ty.val x1) s15 a16 (.tmp 15) := r3
    clear r3
    refine wpList_nil ?_
    have o5 : OwnM Ty.int kI s15 6 x1 (seenS (addS [0] (List.take 0 F))) := (cvm (by (exact bad_zero)) o4)
    refine tn ?_
    refine wp_seq ?_
    refine wp_seq ?_
    refine reg (a := a16) (σ := s15) rfl (fun i_ => List.getD [(Ty.pr (Ty.lst Ty.ints F)), (Ty.pr (Ty.nat (List.length F))), (Ty.pr (Ty.int (0 : Int)))] i_ Pr.any) ok15 rfl ⟨?_, ?_, ?_, trivial⟩ ?_
    · intro ax tx hs okx sm
      exact run_plain rfl (y_move (kp (sm 12 rfl) hs q76))
    · intro ax tx hs okx sm d0
      have e0 := ed d0 rfl rfl rfl
      exact run_plain rfl (y_len Try.underlying29 e0)
    · intro ax tx hs okx sm
      exact run_plain rfl (y_move rfl)
    intro a17 s16 D13
    have ok16 := D13.ok
    have F17 := F16.step0 D13.stp
    have q79 := D13.kt q75 rfl
    have q80 := D13.kt q77 rfl
    have q81 := D13.kt q78 rfl
    have o6 := OwnM.k0 o5 D13.stp
    have q82 : At (Ty.lst Ty.ints F) s16 a17 (.tmp 56) := D13.done 0
    have q83 : At (Ty.nat (List.length F)) s16 a17 (.tmp 57) := D13.done 1
    have q84 : At (Ty.int (0 : Int)) s16 a17 (.tmp 58) := D13.done 2
    clear D13
    refine tn ?_
    refine wp_block ?_
    refine loop (fun n3 a18 w3 => ∃ (t3 : GW) (k : Nat) (x15_1 : Value), t3.w = w3 ∧ FromL [] s0 t3 ∧ Ok 98 a18 ∧ At (Ty.nat k) t3 a18 (.tmp 58) ∧ At (Ty.val x15_1) t3 a18 (.tmp 15) ∧ At (Ty.lst Ty.ints HD) t3 a18 (.tmp 8) ∧ At (Ty.bool SF) t3 a18 (.tmp 13) ∧ At (Ty.lst Ty.ints F) t3 a18 (.tmp 56) ∧ At (Ty.nat (List.length F)) t3 a18 (.tmp 57) ∧ OwnM Ty.int kI t3 6 x15_1 (seenS (addS [0] (F.take k))) ∧ (k ≤ F.length) ∧ n3 = F.length - k) (F.length - (0)) ?_ ?_
    ·
     exact ⟨s16, 0, x1, rfl, F17, ok16, (cvi (by (first | rfl | omega | (simp_all; done) | (simp_all; omega))) q84), q81, q79, q80, q82, q83, (cvm (by (rfl)) o6), by omega, rfl⟩
    ·
     rintro n4 a19 w4 ⟨t4, k, x15_1, rfl, F18, ok17, q85, q86, q87, q88, q89, q90, o7, hk, rfl⟩
     refine wp_seq ?_
     refine reg (a := a19) (σ := t4) rfl (fun i_ => List.getD [(Ty.pr (Ty.bool (decide (((k : Nat) : Int) < (((List.length F) : Nat) : Int)))))] i_ Pr.any) ok17 rfl ⟨?_, trivial⟩ ?_
     · intro ax tx hs okx sm
       exact run_plain rfl (y_lss (kp (sm 58 rfl) hs q85) (kp (sm 57 rfl) hs q90))
     intro a20 s17 D14
     have ok18 := D14.ok
     have F19 := F18.step0 D14.stp
     have q91 := D14.kt q85 rfl
     have q92 := D14.kt q86 rfl
     have q93 := D14.kt q87 rfl
     have q94 := D14.kt q88 rfl
     have q95 := D14.kt q89 rfl
     have q96 := D14.kt q90 rfl
     have o8 := OwnM.k0 o7 D14.stp
     have q97 : At (Ty.bool (decide (((k : Nat) : Int) < (((List.length F) : Nat) : Int)))) s17 a20 (.tmp 59) := D14.done 0
     clear D14
     refine tn ?_
     refine wp_seq ?_
     refine cond_p (p := (((k : Nat) : Int) < (((List.length F) : Nat) : Int))) q97 (fun c4 => ?_) (fun c4 => ?_)
     ·
      have hfr := hFr k (by omega)
      refine wp_skip ?_
      refine tn ?_
      refine wp_seq ?_
      refine wp_block ?_
      refine wp_seq ?_
      refine reg (a := a20) (σ := s17) rfl (fun i_ => List.getD [(Ty.pr (Ty.ref [(Ty.lst Ty.int (F.getD k []))])), (Ty.pr (Ty.lst Ty.int (F.getD k []))), (Ty.pr (Ty.lst Ty.int (F.getD k [])))] i_ Pr.any) ok18 rfl ⟨?_, ?_, ?_, trivial⟩ ?_
      · intro ax tx hs okx sm
        exact run_plain rfl (y_index1 Try.underlying29 Try.inf23 (kp (sm 56 rfl) hs q95) (kp (sm 58 rfl) hs q91) (by omega) (lst_get Ty.ints F [] k (by omega)))
      · intro ax tx hs okx sm d0
        have e0 := ed d0 rfl rfl rfl
        exact run_plain rfl (y_load Try.underlying23 rfl e0 rfl)
      · intro ax tx hs okx sm d0 d1 d2
        have e1 := ed d0 rfl rfl rfl
        exact run_plain rfl (y_assign e1)
      intro a21 s18 D15
      have ok19 := D15.ok
      have F20 := F19.step0 D15.stp
      have q98 := D15.kt q91 rfl
      have q99 := D15.kt q92 rfl
      have q100 := D15.kt q93 rfl
      have q101 := D15.kt q94 rfl
      have q102 := D15.kt q95 rfl
      have q103 := D15.kt q96 rfl
      have o9 := OwnM.k0 o8 D15.stp
      have q104 : At (Ty.lst Ty.int (F.getD k [])) s18 a21 (.tmp 17) := D15.done 2
      clear D15
      refine tn ?_
      refine reg2 (a := a21) (σ := s18) rfl 3 (fun i_ => List.getD [(Ty.pr (Ty.val x15_1)), (Ty.pr (Ty.lst Ty.int (F.getD k []))), (Ty.pr (Ty.nat (rankL ((F.getD k [])))))] i_ Pr.any) ok19 rfl (by decide) rfl ⟨?_, ?_, ?_, trivial⟩ ?_
      · intro ax tx hs okx sm
        exact run_plain rfl (y_move (kp (sm 15 rfl) hs q99))
      · intro ax tx hs okx sm
        exact run_plain rfl (y_move (kp (sm 17 rfl) hs q104))
      · intro ax tx hs okx sm d0
        have e1 := ed d0 rfl rfl rfl
        exact run_plain rfl (y_call #[ax.eval (.tmp 63)] Try.func55 rfl rfl (by simp only [List.map_toArray, List.map_cons, List.map_nil]) (rowPlace_fn ((F.getD k [])) _ _ e1 (by omega)))
      intro a22 s19 D16
      have ok20 := D16.ok
      have F21 := F20.step0 D16.stp
      have q105 := D16.kt q98 rfl
      have q106 := D16.kt q99 rfl
      have q107 := D16.kt q100 rfl
      have q108 := D16.kt q101 rfl
      have q109 := D16.kt q102 rfl
      have q110 := D16.kt q103 rfl
      have o10 := OwnM.k0 o9 D16.stp
      have q111 : At (Ty.val x15_1) s19 a22 (.tmp 62) := D16.done 0 (by decide)
      have q112 : At (Ty.nat (rankL ((F.getD k [])))) s19 a22 (.tmp 64) := D16.done 2 (by decide)
      clear D16
      refine tailL0 (L := [6]) (R := (fun _ τ => OwnM Ty.int kI τ 6 x15_1 (fun x_ => if x_ = (((rankL ((F.getD k []))) : Nat) : Int) then some (1 : Int) else (seenS (addS [0] (F.take k))) x_))) rfl rfl (YldM.toL (m_mapset (i := (((rankL ((F.getD k []))) : Nat) : Int)) Try.underlying86 (keyInt Try.underlying3) (by decide) o10 q111 q112 rfl)) (fun v2 s20 hs4 r4 => ?_)
      have F22 := F21.stepL hs4 (by decide)
      have q113 := kpL hs4 (by decide) rfl q105
      have q114 := kpL hs4 (by decide) rfl q106
      have q115 := kpL hs4 (by decide) rfl q107
      have q116 := kpL hs4 (by decide) rfl q108
      have q117 := kpL hs4 (by decide) rfl q109
      have q118 := kpL hs4 (by decide) rfl q110
      have o11 : OwnM Ty.int kI s20 6 x15_1 (fun x_ => if x_ = (((rankL ((F.getD k []))) : Nat) : Int) then some (1 : Int) else (seenS (addS [0] (F.take k))) x_) := r4
      clear r4
      refine wpList_nil ?_
      refine bn ?_
      refine tn ?_
      refine reg (a := a22) (σ := s20) rfl (fun i_ => List.getD [(Ty.pr (Ty.nat (k + 1))), (Ty.pr (Ty.nat (k + 1)))] i_ Pr.any) ok20 rfl ⟨?_, ?_, trivial⟩ ?_
      · intro ax tx hs okx sm
        exact run_plain rfl ((y_add (kp (sm 58 rfl) hs q113) rfl (w64 (by omega) (by omega))).mono (fun τ _ h => cvi (σ := τ) (by first | omega | exact (Int.natCast_mul _ _).symm) h))
      · intro ax tx hs okx sm d0
        have e0 := ed d0 rfl rfl rfl
        exact run_plain rfl (y_move e0)
      intro a23 s21 D17
      have ok21 := D17.ok
      have F23 := F22.step0 D17.stp
      have q120 := D17.kt q114 rfl
      have q121 := D17.kt q115 rfl
      have q122 := D17.kt q116 rfl
      have q123 := D17.kt q117 rfl
      have q124 := D17.kt q118 rfl
      have o12 := OwnM.k0 o11 D17.stp
      have q125 : At (Ty.nat (k + 1)) s21 a23 (.tmp 58) := D17.done 1
      clear D17
      exact tn ⟨F.length - ((k+1)), by omega, s21, (k+1), x15_1, rfl, F23, ok21, (cvi (by (first | rfl | omega | (simp_all; done) | (simp_all; omega))) q125), q120, q121, q122, q123, q124, (cvm (by (rw [seenS_cons, ← addS_snoc, ← take_snocD [] (by omega)])) o12), by omega, rfl⟩
     ·
      obtain ⟨S, hS⟩ : ∃ S, S = addS [0] F := ⟨_, rfl⟩
      refine wp_exit ?_
      refine tx ?_
      refine tx ?_
      refine bx ?_
      refine tn ?_
      refine wp_seq ?_
      refine reg (a := a20) (σ := s17) rfl (fun i_ => List.getD [(Ty.pr (Ty.bool SF)), (Ty.pr (Ty.bool (!SF))), (Ty.pr (Ty.bool (!SF)))] i_ Pr.any) ok18 rfl ⟨?_, ?_, ?_, trivial⟩ ?_
      · intro ax tx hs okx sm
        exact run_plain rfl (y_move (kp (sm 13 rfl) hs q94))
      · intro ax tx hs okx sm d0
        have e0 := ed d0 rfl rfl rfl
        exact run_plain rfl (y_not e0)
      · intro ax tx hs okx sm d0 d1 d2
        have e1 := ed d0 rfl rfl rfl
        exact run_plain rfl (y_assign e1)
      intro a24 s22 D18
      have ok22 := D18.ok
      have F24 := F19.step0 D18.stp
      have q126 := D18.kt q92 rfl
      have q127 := D18.kt q93 rfl
      have o13 := OwnM.k0 o8 D18.stp
      have q128 : At (Ty.bool (!SF)) s22 a24 (.tmp 18) := D18.done 2
      clear D18
      have o14 : OwnM Ty.int kI s22 6 x15_1 (seenS S) := (cvm (by (rw [show k = F.length by omega, List.take_length, hS])) o13)
      refine tn ?_
      refine wp_seq ?_
      refine wp_seq ?_
      refine reg (a := a24) (σ := s22) rfl (fun i_ => List.getD [(Ty.pr (Ty.lst Ty.ints HD)), (Ty.pr (Ty.nat (List.length HD))), (Ty.pr (Ty.int (0 : Int)))] i_ Pr.any) ok22 rfl ⟨?_, ?_, ?_, trivial⟩ ?_
      · intro ax tx hs okx sm
        exact run_plain rfl (y_move (kp (sm 8 rfl) hs q127))
      · intro ax tx hs okx sm d0
        have e0 := ed d0 rfl rfl rfl
        exact run_plain rfl (y_len Try.underlying29 e0)
      · intro ax tx hs okx sm
        exact run_plain rfl (y_move rfl)
      intro a25 s23 D19
      have ok23 := D19.ok
      have F25 := F24.step0 D19.stp
      have q129 := D19.kt q126 rfl
      have q130 := D19.kt q127 rfl
      have q131 := D19.kt q128 rfl
      have o15 := OwnM.k0 o14 D19.stp
      have q132 : At (Ty.lst Ty.ints HD) s23 a25 (.tmp 68) := D19.done 0
      have q133 : At (Ty.nat (List.length HD)) s23 a25 (.tmp 69) := D19.done 1
      have q134 : At (Ty.int (0 : Int)) s23 a25 (.tmp 70) := D19.done 2
      clear D19
      refine tn ?_
      refine wp_block ?_
      refine loop (fun n5 a26 w5 => ∃ (t5 : GW) (i : Nat), t5.w = w5 ∧ FromL [] s0 t5 ∧ Ok 98 a26 ∧ At (Ty.nat i) t5 a26 (.tmp 70) ∧ At (Ty.bool ((!SF) && bhTo S HD i)) t5 a26 (.tmp 18) ∧ At (Ty.val x15_1) t5 a26 (.tmp 15) ∧ At (Ty.lst Ty.ints HD) t5 a26 (.tmp 8) ∧ At (Ty.lst Ty.ints HD) t5 a26 (.tmp 68) ∧ At (Ty.nat (List.length HD)) t5 a26 (.tmp 69) ∧ OwnM Ty.int kI t5 6 x15_1 (seenS S) ∧ (i ≤ HD.length) ∧ n5 = HD.length - i) (HD.length - (0)) ?_ ?_
      ·
       exact ⟨s23, 0, rfl, F25, ok23, (cvi (by (first | rfl | omega | (simp_all; done) | (simp_all; omega))) q134), (cvb (by (simp [bhTo])) q131), q129, q130, q132, q133, o15, by omega, rfl⟩
      ·
       rintro n6 a27 w6 ⟨t6, i, rfl, F26, ok24, q135, q136, q137, q138, q139, q140, o16, hi, rfl⟩
       refine wp_seq ?_
       refine reg (a := a27) (σ := t6) rfl (fun i_ => List.getD [(Ty.pr (Ty.bool (decide (((i : Nat) : Int) < (((List.length HD) : Nat) : Int)))))] i_ Pr.any) ok24 rfl ⟨?_, trivial⟩ ?_
       · intro ax tx hs okx sm
         exact run_plain rfl (y_lss (kp (sm 70 rfl) hs q135) (kp (sm 69 rfl) hs q140))
       intro a28 s24 D20
       have ok25 := D20.ok
       have F27 := F26.step0 D20.stp
       have q141 := D20.kt q135 rfl
       have q142 := D20.kt q136 rfl
       have q143 := D20.kt q137 rfl
       have q144 := D20.kt q138 rfl
       have q145 := D20.kt q139 rfl
       have q146 := D20.kt q140 rfl
       have o17 := OwnM.k0 o16 D20.stp
       have q147 : At (Ty.bool (decide (((i : Nat) : Int) < (((List.length HD) : Nat) : Int)))) s24 a28 (.tmp 71) := D20.done 0
       clear D20
       refine tn ?_
       refine wp_seq ?_
       refine cond_p (p := (((i : Nat) : Int) < (((List.length HD) : Nat) : Int))) q147 (fun c5 => ?_) (fun c5 => ?_)
       ·
        obtain ⟨hri, hli⟩ := hHr i (by omega); obtain ⟨hu1, hu2⟩ := undo_row hri; have hul := undoL_len (HD.getD i []); have hln := hri.le; have htl : (List.take i HD).length = i := (by rw [List.length_take]; omega)
        refine wp_skip ?_
        refine tn ?_
        refine wp_seq ?_
        refine wp_block ?_
        refine wp_seq ?_
        refine reg (a := a28) (σ := s24) rfl (fun i_ => List.getD [(Ty.pr (Ty.nat i)), (Ty.pr (Ty.ref [(Ty.lst Ty.int (HD.getD i []))])), (Ty.pr (Ty.lst Ty.int (HD.getD i []))), (Ty.pr (Ty.nat i)), (Ty.pr (Ty.lst Ty.int (HD.getD i [])))] i_ Pr.any) ok25 rfl ⟨?_, ?_, ?_, ?_, ?_, trivial⟩ ?_
        · intro ax tx hs okx sm
          exact run_plain rfl (y_move (kp (sm 70 rfl) hs q141))
        · intro ax tx hs okx sm
          exact run_plain rfl (y_index1 Try.underlying29 Try.inf23 (kp (sm 68 rfl) hs q145) (kp (sm 70 rfl) hs q141) (by omega) (lst_get Ty.ints HD [] i (by omega)))
        · intro ax tx hs okx sm d0
          have e1 := ed d0 rfl rfl rfl
          exact run_plain rfl (y_load Try.underlying23 rfl e1 rfl)
        · intro ax tx hs okx sm d0 d1 d2 d3
          have e0 := ed d0 rfl rfl rfl
          exact run_plain rfl (y_assign e0)
        · intro ax tx hs okx sm d0 d1 d2 d3 d4 d5
          have e2 := ed d0 rfl rfl rfl
          exact run_plain rfl (y_assign e2)
        intro a29 s25 D21
        have ok26 := D21.ok
        have F28 := F27.step0 D21.stp
        have q148 := D21.kt q141 rfl
        have q149 := D21.kt q142 rfl
        have q150 := D21.kt q143 rfl
        have q151 := D21.kt q144 rfl
        have q152 := D21.kt q145 rfl
        have q153 := D21.kt q146 rfl
        have o18 := OwnM.k0 o17 D21.stp
        have q154 : At (Ty.nat i) s25 a29 (.tmp 19) := D21.done 3
        have q155 : At (Ty.lst Ty.int (HD.getD i [])) s25 a29 (.tmp 20) := D21.done 4
        clear D21
        refine tn ?_
        refine wp_seq ?_
        refine reg (a := a29) (σ := s25) rfl (fun i_ => List.getD [(Ty.pr (Ty.lst Ty.int (HD.getD i []))), (Ty.pr (Ty.lst Ty.int (undoL ((HD.getD i []))))), (Ty.pr (Ty.lst Ty.int (undoL ((HD.getD i [])))))] i_ Pr.any) ok26 rfl ⟨?_, ?_, ?_, trivial⟩ ?_
        · intro ax tx hs okx sm
          exact run_plain rfl (y_move (kp (sm 20 rfl) hs q155))
        · intro ax tx hs okx sm d0
          have e0 := ed d0 rfl rfl rfl
          exact run_plain rfl (y_call #[ax.eval (.tmp 75)] Try.func56 rfl rfl (by simp only [List.map_toArray, List.map_cons, List.map_nil]) (inverse_fn ((HD.getD i [])) _ _ e0 (by assumption)))
        · intro ax tx hs okx sm d0 d1 d2 d3
          have e1 := ed d0 rfl rfl rfl
          exact run_plain rfl (y_assign e1)
        intro a30 s26 D22
        have ok27 := D22.ok
        have F29 := F28.step0 D22.stp
        have q156 := D22.kt q148 rfl
        have q157 := D22.kt q149 rfl
        have q158 := D22.kt q150 rfl
        have q159 := D22.kt q151 rfl
        have q160 := D22.kt q152 rfl
        have q161 := D22.kt q153 rfl
        have q162 := D22.kt q154 rfl
        have o19 := OwnM.k0 o18 D22.stp
        have q163 : At (Ty.lst Ty.int (undoL ((HD.getD i [])))) s26 a30 (.tmp 21) := D22.done 2
        clear D22
        refine tn ?_
        refine wp_seq ?_
        refine reg (a := a30) (σ := s26) rfl (fun i_ => List.getD [(Ty.pr (Ty.lst Ty.ints HD)), (Ty.pr (Ty.nat i)), (Ty.pr (Ty.lst Ty.ints (HD.take i))), (Ty.pr (Ty.nat (List.length (HD.take i)))), (Ty.pr (Ty.int (0 : Int)))] i_ Pr.any) ok27 rfl ⟨?_, ?_, ?_, ?_, ?_, trivial⟩ ?_
        · intro ax tx hs okx sm
          exact run_plain rfl (y_move (kp (sm 8 rfl) hs q159))
        · intro ax tx hs okx sm
          exact run_plain rfl (y_move (kp (sm 19 rfl) hs q162))
        · intro ax tx hs okx sm d0 d1
          have e0 := ed d0 rfl rfl rfl
          have e1 := ed d1 rfl rfl rfl
          exact run_plain rfl (y_take Try.underlying29 Try.inf23 e0 e1 (by omega))
        · intro ax tx hs okx sm d0
          have e2 := ed d0 rfl rfl rfl
          exact run_plain rfl (y_len Try.underlying29 e2)
        · intro ax tx hs okx sm
          exact run_plain rfl (y_move rfl)
        intro a31 s27 D23
        have ok28 := D23.ok
        have F30 := F29.step0 D23.stp
        have q164 := D23.kt q156 rfl
        have q165 := D23.kt q157 rfl
        have q166 := D23.kt q158 rfl
        have q167 := D23.kt q159 rfl
        have q168 := D23.kt q160 rfl
        have q169 := D23.kt q161 rfl
        have q170 := D23.kt q163 rfl
        have o20 := OwnM.k0 o19 D23.stp
        have q171 : At (Ty.lst Ty.ints (HD.take i)) s27 a31 (.tmp 79) := D23.done 2
        have b3 := sl_le q171
        have q172 : At (Ty.nat (List.length (HD.take i))) s27 a31 (.tmp 80) := D23.done 3
        have q173 : At (Ty.int (0 : Int)) s27 a31 (.tmp 81) := D23.done 4
        clear D23
        refine tn ?_
        refine wp_block ?_
        refine loop (fun n7 a32 w7 => ∃ (t7 : GW) (j : Nat), t7.w = w7 ∧ FromL [] s0 t7 ∧ Ok 98 a32 ∧ At (Ty.nat j) t7 a32 (.tmp 81) ∧ At (Ty.bool (((!SF) && bhTo S HD i) && bhRow S HD i j)) t7 a32 (.tmp 18) ∧ At (Ty.nat i) t7 a32 (.tmp 70) ∧ At (Ty.val x15_1) t7 a32 (.tmp 15) ∧ At (Ty.lst Ty.ints HD) t7 a32 (.tmp 8) ∧ At (Ty.lst Ty.ints HD) t7 a32 (.tmp 68) ∧ At (Ty.nat (List.length HD)) t7 a32 (.tmp 69) ∧ At (Ty.lst Ty.int (undoL ((HD.getD i [])))) t7 a32 (.tmp 21) ∧ At (Ty.lst Ty.ints (HD.take i)) t7 a32 (.tmp 79) ∧ At (Ty.nat (List.length (HD.take i))) t7 a32 (.tmp 80) ∧ OwnM Ty.int kI t7 6 x15_1 (seenS S) ∧ (j ≤ (List.take i HD).length) ∧ n7 = (List.take i HD).length - j) ((List.take i HD).length - (0)) ?_ ?_
        ·
         exact ⟨s27, 0, rfl, F30, ok28, (cvi (by (first | rfl | omega | (simp_all; done) | (simp_all; omega))) q173), (cvb (by (rw [bhRow_zero, Bool.and_true])) q165), q164, q166, q167, q168, q169, q170, q171, q172, o20, by omega, rfl⟩
        ·
         rintro n8 a33 w8 ⟨t8, j, rfl, F31, ok29, q174, q175, q176, q177, q178, q179, q180, q181, q182, q183, o21, hj, rfl⟩
         refine wp_seq ?_
         refine reg (a := a33) (σ := t8) rfl (fun i_ => List.getD [(Ty.pr (Ty.bool (decide (((j : Nat) : Int) < (((List.length (HD.take i)) : Nat) : Int)))))] i_ Pr.any) ok29 rfl ⟨?_, trivial⟩ ?_
         · intro ax tx hs okx sm
           exact run_plain rfl (y_lss (kp (sm 81 rfl) hs q174) (kp (sm 80 rfl) hs q183))
         intro a34 s28 D24
         have ok30 := D24.ok
         have F32 := F31.step0 D24.stp
         have q184 := D24.kt q174 rfl
         have q185 := D24.kt q175 rfl
         have q186 := D24.kt q176 rfl
         have q187 := D24.kt q177 rfl
         have q188 := D24.kt q178 rfl
         have q189 := D24.kt q179 rfl
         have q190 := D24.kt q180 rfl
         have q191 := D24.kt q181 rfl
         have q192 := D24.kt q182 rfl
         have q193 := D24.kt q183 rfl
         have o22 := OwnM.k0 o21 D24.stp
         have q194 : At (Ty.bool (decide (((j : Nat) : Int) < (((List.length (HD.take i)) : Nat) : Int)))) s28 a34 (.tmp 82) := D24.done 0
         clear D24
         refine tn ?_
         refine wp_seq ?_
         refine cond_p (p := (((j : Nat) : Int) < (((List.length (HD.take i)) : Nat) : Int))) q194 (fun c6 => ?_) (fun c6 => ?_)
         ·
          obtain ⟨hrj, hlj⟩ := hHr j (by omega); have hbd_ : ∀ q, q < (HD.getD j []).length → 0 ≤ (HD.getD j []).getD q 0 ∧ (HD.getD j []).getD q 0 < ((undoL (HD.getD i [])).length : Int) := (fun q hq => by have := hrj.bds q hq; omega); have hbl : (byL (undoL (HD.getD i [])) (HD.getD j [])).length ≤ 12 := (by rw [byL_len]; omega)
          refine wp_skip ?_
          refine tn ?_
          refine wp_seq ?_
          refine wp_block ?_
          refine wp_seq ?_
          refine reg (a := a34) (σ := s28) rfl (fun i_ => List.getD [(Ty.pr (Ty.ref [(Ty.lst Ty.int ((HD.take i).getD j []))])), (Ty.pr (Ty.lst Ty.int ((HD.take i).getD j []))), (Ty.pr (Ty.lst Ty.int ((HD.take i).getD j [])))] i_ Pr.any) ok30 rfl ⟨?_, ?_, ?_, trivial⟩ ?_
          · intro ax tx hs okx sm
            exact run_plain rfl (y_index1 Try.underlying29 Try.inf23 (kp (sm 79 rfl) hs q192) (kp (sm 81 rfl) hs q184) (by omega) (lst_get Ty.ints (HD.take i) [] j (by omega)))
          · intro ax tx hs okx sm d0
            have e0 := ed d0 rfl rfl rfl
            exact run_plain rfl (y_load Try.underlying23 rfl e0 rfl)
          · intro ax tx hs okx sm d0 d1 d2
            have e1 := ed d0 rfl rfl rfl
            exact run_plain rfl (y_assign e1)
          intro a35 s29 D25
          have ok31 := D25.ok
          have F33 := F32.step0 D25.stp
          have q195 := D25.kt q184 rfl
          have q196 := D25.kt q185 rfl
          have q197 := D25.kt q186 rfl
          have q198 := D25.kt q187 rfl
          have q199 := D25.kt q188 rfl
          have q200 := D25.kt q189 rfl
          have q201 := D25.kt q190 rfl
          have q202 := D25.kt q191 rfl
          have q203 := D25.kt q192 rfl
          have q204 := D25.kt q193 rfl
          have o23 := OwnM.k0 o22 D25.stp
          have q205 : At (Ty.lst Ty.int ((HD.take i).getD j [])) s29 a35 (.tmp 23) := D25.done 2
          clear D25
          have q206 : At (Ty.lst Ty.int (HD.getD j [])) s29 a35 (.tmp 23) := (cvt (by (rw [getD_takeD [] (by omega)])) q205)
          refine tn ?_
          refine reg (a := a35) (σ := s29) rfl (fun i_ => List.getD [(Ty.pr (Ty.bool (((!SF) && bhTo S HD i) && bhRow S HD i j))), (Ty.pr (Ty.bool (((!SF) && bhTo S HD i) && bhRow S HD i j))), (Ty.pr (Ty.grd ((((!SF) && bhTo S HD i) && bhRow S HD i j) = true) (Ty.val x15_1))), (Ty.pr (Ty.grd ((((!SF) && bhTo S HD i) && bhRow S HD i j) = true) (Ty.lst Ty.int (undoL ((HD.getD i [])))))), (Ty.pr (Ty.grd ((((!SF) && bhTo S HD i) && bhRow S HD i j) = true) (Ty.lst Ty.int (HD.getD j [])))), (Ty.pr (Ty.grd ((((!SF) && bhTo S HD i) && bhRow S HD i j) = true) (Ty.lst Ty.int (byL ((undoL ((HD.getD i [])))) ((HD.getD j [])))))), (Ty.pr (Ty.grd ((((!SF) && bhTo S HD i) && bhRow S HD i j) = true) (Ty.nat (rankL ((byL ((undoL ((HD.getD i [])))) ((HD.getD j [])))))))), (Ty.pr (Ty.grd ((((!SF) && bhTo S HD i) && bhRow S HD i j) = true) (Ty.int (((seenS S) (((rankL ((byL ((undoL ((HD.getD i [])))) ((HD.getD j []))))) : Nat) : Int)).getD 0)))), (Ty.pr (Ty.grd ((((!SF) && bhTo S HD i) && bhRow S HD i j) = true) (Ty.bool (decide ((((seenS S) (((rankL ((byL ((undoL ((HD.getD i [])))) ((HD.getD j []))))) : Nat) : Int)).getD 0) = (0 : Int)))))), (Ty.pr (Ty.bool ((((!SF) && bhTo S HD i) && bhRow S HD i j) && (decide ((((seenS S) (((rankL ((byL ((undoL ((HD.getD i [])))) ((HD.getD j []))))) : Nat) : Int)).getD 0) = (0 : Int)))))), (Ty.pr (Ty.bool ((((!SF) && bhTo S HD i) && bhRow S HD i j) && (decide ((((seenS S) (((rankL ((byL ((undoL ((HD.getD i [])))) ((HD.getD j []))))) : Nat) : Int)).getD 0) = (0 : Int))))))] i_ Pr.any) ok31 rfl ⟨?_, ?_, ?_, ?_, ?_, ?_, ?_, ?_, ?_, ?_, ?_, trivial⟩ ?_
          · intro ax tx hs okx sm
            exact run_plain rfl (y_move (kp (sm 18 rfl) hs q196))
          · intro ax tx hs okx sm d0
            have e0 := ed d0 rfl rfl rfl
            exact run_plain rfl (y_move e0)
          · intro ax tx hs okx sm d0
            have e1 := ed d0 rfl rfl rfl
            refine run_guard (T := (Ty.val x15_1)) okx rfl rfl (by decide) e1 (fun hg => ?_)
            exact y_move (kp (sm 15 rfl) hs q198)
          · intro ax tx hs okx sm d0
            have e1 := ed d0 rfl rfl rfl
            refine run_guard (T := (Ty.lst Ty.int (undoL ((HD.getD i []))))) okx rfl rfl (by decide) e1 (fun hg => ?_)
            exact y_move (kp (sm 21 rfl) hs q202)
          · intro ax tx hs okx sm d0
            have e1 := ed d0 rfl rfl rfl
            refine run_guard (T := (Ty.lst Ty.int (HD.getD j []))) okx rfl rfl (by decide) e1 (fun hg => ?_)
            exact y_move (kp (sm 23 rfl) hs q206)
          · intro ax tx hs okx sm d0 d1 d2 d3
            have e3 := ed d0 rfl rfl rfl
            have e4 := ed d1 rfl rfl rfl
            have e1 := ed d2 rfl rfl rfl
            refine run_guard (T := (Ty.lst Ty.int (byL ((undoL ((HD.getD i [])))) ((HD.getD j []))))) okx rfl rfl (by decide) e1 (fun hg => ?_)
            exact y_call #[ax.eval (.tmp 88), ax.eval (.tmp 89)] Try.func57 rfl rfl (by simp only [List.map_toArray, List.map_cons, List.map_nil]) (product_fn ((undoL ((HD.getD i [])))) ((HD.getD j [])) _ _ _ (e3.1 hg) (e4.1 hg) (by first | assumption | omega) (by first | assumption | omega) (by first | assumption | omega))
          · intro ax tx hs okx sm d0 d1 d2
            have e5 := ed d0 rfl rfl rfl
            have e1 := ed d2 rfl rfl rfl
            refine run_guard (T := (Ty.nat (rankL ((byL ((undoL ((HD.getD i [])))) ((HD.getD j []))))))) okx rfl rfl (by decide) e1 (fun hg => ?_)
            exact y_call #[ax.eval (.tmp 90)] Try.func55 rfl rfl (by simp only [List.map_toArray, List.map_cons, List.map_nil]) (rowPlace_fn ((byL ((undoL ((HD.getD i [])))) ((HD.getD j [])))) _ _ (e5.1 hg) (by omega))
          · intro ax tx hs okx sm d0 d1 d2
            have e2 := ed d0 rfl rfl rfl
            have e6 := ed d1 rfl rfl rfl
            have e1 := ed d2 rfl rfl rfl
            refine run_guard (T := (Ty.int (((seenS S) (((rankL ((byL ((undoL ((HD.getD i [])))) ((HD.getD j []))))) : Nat) : Int)).getD 0))) okx rfl rfl (by decide) e1 (fun hg => ?_)
            exact y_lookup (i := (((rankL ((byL ((undoL ((HD.getD i [])))) ((HD.getD j []))))) : Nat) : Int)) (z := 0) Try.underlying86 (keyInt Try.underlying3) Try.inf3 (fun _ => rfl) (OwnM.k0 o23 hs) (e2.1 hg) (e6.1 hg)
          · intro ax tx hs okx sm d0 d1
            have e7 := ed d0 rfl rfl rfl
            have e1 := ed d1 rfl rfl rfl
            refine run_guard (T := (Ty.bool (decide ((((seenS S) (((rankL ((byL ((undoL ((HD.getD i [])))) ((HD.getD j []))))) : Nat) : Int)).getD 0) = (0 : Int))))) okx rfl rfl (by decide) e1 (fun hg => ?_)
            exact y_eql (e7.1 hg) rfl
          · intro ax tx hs okx sm d0 d1
            have e1 := ed d0 rfl rfl rfl
            have e8 := ed d1 rfl rfl rfl
            exact run_plain rfl (y_pick_and e1 e8 rfl)
          · intro ax tx hs okx sm d0 d1 d2 d3 d4 d5 d6 d7 d8 d9 d10 d11
            have e9 := ed d0 rfl rfl rfl
            exact run_plain rfl (y_assign e9)
          intro a36 s30 D26
          have ok32 := D26.ok
          have F34 := F33.step0 D26.stp
          have q207 := D26.kt q195 rfl
          have q208 := D26.kt q197 rfl
          have q209 := D26.kt q198 rfl
          have q210 := D26.kt q199 rfl
          have q211 := D26.kt q200 rfl
          have q212 := D26.kt q201 rfl
          have q213 := D26.kt q202 rfl
          have q214 := D26.kt q203 rfl
          have q215 := D26.kt q204 rfl
          have o24 := OwnM.k0 o23 D26.stp
          have q216 : At (Ty.bool ((((!SF) && bhTo S HD i) && bhRow S HD i j) && (decide ((((seenS S) (((rankL ((byL ((undoL ((HD.getD i [])))) ((HD.getD j []))))) : Nat) : Int)).getD 0) = (0 : Int))))) s30 a36 (.tmp 18) := D26.done 10
          clear D26
          refine bn ?_
          refine tn ?_
          refine reg (a := a36) (σ := s30) rfl (fun i_ => List.getD [(Ty.pr (Ty.nat (j + 1))), (Ty.pr (Ty.nat (j + 1)))] i_ Pr.any) ok32 rfl ⟨?_, ?_, trivial⟩ ?_
          · intro ax tx hs okx sm
            exact run_plain rfl ((y_add (kp (sm 81 rfl) hs q207) rfl (w64 (by omega) (by omega))).mono (fun τ _ h => cvi (σ := τ) (by first | omega | exact (Int.natCast_mul _ _).symm) h))
          · intro ax tx hs okx sm d0
            have e0 := ed d0 rfl rfl rfl
            exact run_plain rfl (y_move e0)
          intro a37 s31 D27
          have ok33 := D27.ok
          have F35 := F34.step0 D27.stp
          have q217 := D27.kt q208 rfl
          have q218 := D27.kt q209 rfl
          have q219 := D27.kt q210 rfl
          have q220 := D27.kt q211 rfl
          have q221 := D27.kt q212 rfl
          have q222 := D27.kt q213 rfl
          have q223 := D27.kt q214 rfl
          have q224 := D27.kt q215 rfl
          have q225 := D27.kt q216 rfl
          have o25 := OwnM.k0 o24 D27.stp
          have q226 : At (Ty.nat (j + 1)) s31 a37 (.tmp 81) := D27.done 1
          clear D27
          exact tn ⟨(List.take i HD).length - ((j+1)), by omega, s31, (j+1), rfl, F35, ok33, (cvi (by (first | rfl | omega | (simp_all; done) | (simp_all; omega))) q226), (cvb (by (rw [bhRow_succ, seen_dec, Bool.and_assoc])) q225), q217, q218, q219, q220, q221, q222, q223, q224, o25, by omega, rfl⟩
         ·
          have hje : j = i := (by omega)
          refine wp_exit ?_
          refine tx ?_
          refine tx ?_
          refine bx ?_
          refine bn ?_
          refine tn ?_
          refine reg (a := a34) (σ := s28) rfl (fun i_ => List.getD [(Ty.pr (Ty.nat (i + 1))), (Ty.pr (Ty.nat (i + 1)))] i_ Pr.any) ok30 rfl ⟨?_, ?_, trivial⟩ ?_
          · intro ax tx hs okx sm
            exact run_plain rfl ((y_add (kp (sm 70 rfl) hs q186) rfl (w64 (by omega) (by omega))).mono (fun τ _ h => cvi (σ := τ) (by first | omega | exact (Int.natCast_mul _ _).symm) h))
          · intro ax tx hs okx sm d0
            have e0 := ed d0 rfl rfl rfl
            exact run_plain rfl (y_move e0)
          intro a38 s32 D28
          have ok34 := D28.ok
          have F36 := F32.step0 D28.stp
          have q227 := D28.kt q185 rfl
          have q228 := D28.kt q187 rfl
          have q229 := D28.kt q188 rfl
          have q230 := D28.kt q189 rfl
          have q231 := D28.kt q190 rfl
          have o26 := OwnM.k0 o22 D28.stp
          have q232 : At (Ty.nat (i + 1)) s32 a38 (.tmp 70) := D28.done 1
          clear D28
          exact tn ⟨HD.length - ((i+1)), by omega, s32, (i+1), rfl, F36, ok34, (cvi (by (first | rfl | omega | (simp_all; done) | (simp_all; omega))) q232), (cvb (by (rw [bhTo_succ, hje, Bool.and_assoc])) q227), q228, q229, q230, q231, o26, by omega, rfl⟩
       ·
        refine wp_exit ?_
        refine tx ?_
        refine tx ?_
        refine bx ?_
        refine tn ?_
        refine wp_seq ?_
        refine reg (a := a28) (σ := s24) rfl (fun i_ => List.getD [(Ty.pr (Ty.bool ((!SF) && bhTo S HD i))), (Ty.pr (Ty.bool ((!SF) && bhTo S HD i))), (Ty.pr (Ty.int (0 : Int)))] i_ Pr.any) ok25 rfl ⟨?_, ?_, ?_, trivial⟩ ?_
        · intro ax tx hs okx sm
          exact run_plain rfl (y_move (kp (sm 18 rfl) hs q142))
        · intro ax tx hs okx sm d0 d1
          have e0 := ed d0 rfl rfl rfl
          exact run_plain rfl (y_assign e0)
        · intro ax tx hs okx sm d0 d1 d2
          exact run_plain rfl (y_assign rfl)
        intro a39 s33 D29
        have ok35 := D29.ok
        have F37 := F27.step0 D29.stp
        have o27 := OwnM.k0 o17 D29.stp
        have q233 : At (Ty.bool ((!SF) && bhTo S HD i)) s33 a39 (.tmp 6) := D29.done 1
        have q234 : At (Ty.int (0 : Int)) s33 a39 (.tmp 7) := D29.done 2
        clear D29
        refine tn ?_
        refine wp_ret ?_
        exact retL2 rfl ok35 F37 (hasT2 (cvb (by (rw [if_pos h0, hone, Bool.true_and, ← hSF, ← hF, ← hS, ← hHD, show i = leads.length by omega])) q233) (cvi (by (rw [if_pos h0, if_pos hone])) q234))


theorem Try.fld42_0 : fieldOf Try.prog 42 0 = some (3, 0) := by kernel_rfl
set_option maxHeartbeats 4000000 in
set_option maxRecDepth 100000 in
theorem topTruth_fn (raw : List Int) (n : Int) (changes : Int) (calls : Int) (leads : Int) (σ : GW)  (v0 v1 v2 v3 v4 : Value) (hv0 : Ty.has (Ty.lst Ty.int raw) σ v0) (hv1 : Ty.has (Ty.int n) σ v1) (hv2 : Ty.has (Ty.int changes) σ v2) (hv3 : Ty.has (Ty.int calls) σ v3) (hv4 : Ty.has (Ty.int leads) σ v4)  (hraw : ∀ x ∈ raw, -9223372036854775808 ≤ x ∧ x ≤ 9223372036854775807) (hn : -9223372036854775808 ≤ n ∧ n ≤ 9223372036854775807) (hchanges : -9223372036854775808 ≤ changes ∧ changes ≤ 9223372036854775807) (hcalls : -9223372036854775808 ≤ calls ∧ calls ≤ 9223372036854775807) (hleads : -9223372036854775808 ≤ leads ∧ leads ≤ 9223372036854775807) :
    FnC Try.prog 11 #[v0, v1, v2, v3, v4] σ (Ty.bool true) := by
 have hr : ∀ k, -9223372036854775808 ≤ rawAt raw k ∧ rawAt raw k ≤ 9223372036854775807 := fun k => rawAt_bd hraw k
 have hp_n := pick_lt n (n := 7) (by omega)
 have hp_changes := pick_lt changes (n := 16) (by omega)
 have hp_calls := pick_lt calls (n := 3) (by omega)
 have hp_leads := pick_lt leads (n := 15) (by omega)
 obtain ⟨M, hM⟩ : ∃ M, M = 2 + pick n 7 := ⟨_, rfl⟩
 obtain ⟨K, hK⟩ : ∃ K, K = 1 + pick changes 16 := ⟨_, rfl⟩
 obtain ⟨C, hC⟩ : ∃ C, C = 1 + pick calls 3 := ⟨_, rfl⟩
 obtain ⟨LN, hLN⟩ : ∃ LN, LN = 1 + pick leads 15 := ⟨_, rfl⟩
 obtain ⟨L, hL⟩ : ∃ L, L = changesOf raw 3 M K := ⟨_, rfl⟩
 obtain ⟨CS, hCS⟩ : ∃ CS, CS = cOf raw M (C - 1) := ⟨_, rfl⟩
 obtain ⟨T, hT⟩ : ∃ T, T = leadsOf raw LN C := ⟨_, rfl⟩
 have hmo : MethOk (ByteArray.mk #[84, 114, 105, 101, 100]) M L := by (rw [hL]; exact methOk_of (by decide +kernel) (by omega) (by omega) (by omega) (by omega))
 have hbs : (ByteArray.mk #[84, 114, 105, 101, 100]).size ≤ 1099511627776 := by (show 5 ≤ 1099511627776; omega)
 have hLl : L.length = K := by rw [hL, changesOf_len]
 have hco : callsMay (ByteArray.mk #[84, 114, 105, 101, 100]) ((M : Nat) : Int) L CS = 0 := by (rw [hCS]; exact cOf_may hmo (by omega))
 have hCl : CS.length = C := by rw [hCS, cOf_len]; omega
 have hTl : T.length = LN := by rw [hT, leadsOf_len]
 have hTi : inCalls CS T := by (rw [hT]; exact in_calls (by rw [hCl]; exact leads_in (by omega)))
 have hmb : T.length * L.length ≤ 15 * 16 := Nat.mul_le_mul (by omega) (by omega)
 have htT : touchMay (ByteArray.mk #[84, 114, 105, 101, 100]) ((M : Nat) : Int) L CS T = 0 := touchMay_yes hco (by omega) hTi (by omega)
 have htn : (((M : Nat) : Int)).toNat = M := Int.toNat_natCast _
 have hok_ := (callsMay_ok hco).1
 rw [htn] at hok_
 have hmI : ((T.length : Nat) : Int) * ((L.length : Nat) : Int) = ((T.length * L.length : Nat) : Int) := (Int.natCast_mul _ _).symm
 have ho_ : ∀ a, a < T.length → (CS.getD (T.getD a 0).toNat D0).2.length < 2 := fun a _ => by (rw [hCS]; exact cOf_one _)
 have hone := one_yes ho_
 have hbh : ((!(sfTo ((fromL (roundsL M) L).take L.length) ((fromL (roundsL M) L).take L.length).length ((fromL (roundsL M) L).take L.length).length)) && bhTo (addS [0] (onceL (enTo ((fromL (roundsL M) L).take L.length) ((fromL (roundsL M) L).take L.length).length ((fromL (roundsL M) L).take L.length).length))) (tHds M L CS T T.length) T.length) = trueP M L CS T := by_heads hok_ hTi (by omega) ho_ rfl
 refine fn_intro0 Try.func11 rfl Try.ntmps11 (Nat.le_of_ble_eq_true rfl) (fun s0 a0 hle F0 ok0 hargs => ?_)
 have p0 : At (Ty.lst Ty.int raw) s0 a0 (.tmp 0) := by have e := hargs 0 _ rfl; show Ty.has _ _ _; rw [e]; exact Ty.up _ hle hv0
 have b1 := sl_le p0
 have p1 : At (Ty.int n) s0 a0 (.tmp 1) := by have e := hargs 1 _ rfl; show Ty.has _ _ _; rw [e]; exact Ty.up _ hle hv1
 have p2 : At (Ty.int changes) s0 a0 (.tmp 2) := by have e := hargs 2 _ rfl; show Ty.has _ _ _; rw [e]; exact Ty.up _ hle hv2
 have p3 : At (Ty.int calls) s0 a0 (.tmp 3) := by have e := hargs 3 _ rfl; show Ty.has _ _ _; rw [e]; exact Ty.up _ hle hv3
 have p4 : At (Ty.int leads) s0 a0 (.tmp 4) := by have e := hargs 4 _ rfl; show Ty.has _ _ _; rw [e]; exact Ty.up _ hle hv4
 clear hargs
 refine wp_seq ?_
 refine reg (a := a0) (σ := s0) rfl (fun i_ => List.getD [(Ty.pr (Ty.bool false))] i_ Pr.any) ok0 rfl ⟨?_, trivial⟩ ?_
 · intro ax tx hs okx sm
   exact run_plain rfl (y_assign rfl)
 intro a1 s1 D1
 have ok1 := D1.ok
 have F1 := F0.step0 D1.stp
 have q1 := D1.kt p0 rfl
 have q2 := D1.kt p1 rfl
 have q3 := D1.kt p2 rfl
 have q4 := D1.kt p3 rfl
 have q5 := D1.kt p4 rfl
 clear D1
 refine tn ?_
 refine wp_seq ?_
 refine wp_seq ?_
 refine reg (a := a1) (σ := s1) rfl (fun i_ => List.getD [(Ty.pr (Ty.lst Ty.int raw)), (Ty.pr (Ty.nat (List.length raw))), (Ty.pr (Ty.bool (decide ((256 : Int) < (((List.length raw) : Nat) : Int)))))] i_ Pr.any) ok1 rfl ⟨?_, ?_, ?_, trivial⟩ ?_
 · intro ax tx hs okx sm
   exact run_plain rfl (y_move (kp (sm 0 rfl) hs q1))
 · intro ax tx hs okx sm d0
   have e0 := ed d0 rfl rfl rfl
   exact run_plain rfl (y_len Try.underlying23 e0)
 · intro ax tx hs okx sm d0
   have e1 := ed d0 rfl rfl rfl
   exact run_plain rfl (y_gtr e1 rfl)
 intro a2 s2 D2
 have ok2 := D2.ok
 have F2 := F1.step0 D2.stp
 have q6 := D2.kt q1 rfl
 have q7 := D2.kt q2 rfl
 have q8 := D2.kt q3 rfl
 have q9 := D2.kt q4 rfl
 have q10 := D2.kt q5 rfl
 have q11 : At (Ty.bool (decide ((256 : Int) < (((List.length raw) : Nat) : Int)))) s2 a2 (.tmp 21) := D2.done 2
 clear D2
 refine tn ?_
 refine cond_p (p := ((256 : Int) < (((List.length raw) : Nat) : Int))) q11 (fun c1 => ?_) (fun c1 => ?_)
 ·
  refine wp_seq ?_
  refine reg (a := a2) (σ := s2) rfl (fun i_ => List.getD [(Ty.pr (Ty.bool true))] i_ Pr.any) ok2 rfl ⟨?_, trivial⟩ ?_
  · intro ax tx hs okx sm
    exact run_plain rfl (y_assign rfl)
  intro a3 s3 D3
  have ok3 := D3.ok
  have F3 := F2.step0 D3.stp
  have q12 : At (Ty.bool true) s3 a3 (.tmp 10) := D3.done 0
  clear D3
  refine tn ?_
  refine wp_ret ?_
  refine tr ?_
  exact retL1 rfl ok3 F3 q12
 ·
  refine wp_skip ?_
  refine tn ?_
  refine wp_seq ?_
  refine reg (a := a2) (σ := s2) rfl (fun i_ => List.getD [(Ty.pr (Ty.int n)), (Ty.pr (Ty.nat (pick (n) (7)))), (Ty.pr (Ty.nat (2 + (pick (n) (7))))), (Ty.pr (Ty.nat (2 + (pick (n) (7)))))] i_ Pr.any) ok2 rfl ⟨?_, ?_, ?_, ?_, trivial⟩ ?_
  · intro ax tx hs okx sm
    exact run_plain rfl (y_move (kp (sm 1 rfl) hs q7))
  · intro ax tx hs okx sm d0
    have e0 := ed d0 rfl rfl rfl
    exact run_plain rfl (y_call #[ax.eval (.tmp 22), ax.eval ((Operand.const (Value.int IntKind.i64 7)))] Try.func18 rfl rfl (by simp only [List.map_toArray, List.map_cons, List.map_nil]) (pick_fn (n) (7) _ _ _ (cvi (σ := tx) (by omega) e0) (cvi (σ := tx) (by omega) rfl) (by omega) (by omega)))
  · intro ax tx hs okx sm d0
    have e1 := ed d0 rfl rfl rfl
    exact run_plain rfl ((y_add rfl e1 (w64 (by omega) (by omega))).mono (fun τ _ h => cvi (σ := τ) (by first | omega | exact (Int.natCast_mul _ _).symm) h))
  · intro ax tx hs okx sm d0 d1 d2 d3 d4
    have e2 := ed d0 rfl rfl rfl
    exact run_plain rfl (y_assign e2)
  intro a4 s4 D4
  have ok4 := D4.ok
  have F4 := F2.step0 D4.stp
  have q13 := D4.kt q6 rfl
  have q14 := D4.kt q8 rfl
  have q15 := D4.kt q9 rfl
  have q16 := D4.kt q10 rfl
  have q17 : At (Ty.nat (2 + (pick (n) (7)))) s4 a4 (.tmp 1) := D4.done 3
  clear D4
  have q18 : At (Ty.nat M) s4 a4 (.tmp 1) := (cvi (by (rw [hM])) q17)
  refine tn ?_
  refine wp_seq ?_
  refine reg (a := a4) (σ := s4) rfl (fun i_ => List.getD [(Ty.pr (Ty.int calls)), (Ty.pr (Ty.nat (pick (calls) (3)))), (Ty.pr (Ty.nat (1 + (pick (calls) (3))))), (Ty.pr (Ty.nat (1 + (pick (calls) (3)))))] i_ Pr.any) ok4 rfl ⟨?_, ?_, ?_, ?_, trivial⟩ ?_
  · intro ax tx hs okx sm
    exact run_plain rfl (y_move (kp (sm 3 rfl) hs q15))
  · intro ax tx hs okx sm d0
    have e0 := ed d0 rfl rfl rfl
    exact run_plain rfl (y_call #[ax.eval (.tmp 25), ax.eval ((Operand.const (Value.int IntKind.i64 3)))] Try.func18 rfl rfl (by simp only [List.map_toArray, List.map_cons, List.map_nil]) (pick_fn (calls) (3) _ _ _ (cvi (σ := tx) (by omega) e0) (cvi (σ := tx) (by omega) rfl) (by omega) (by omega)))
  · intro ax tx hs okx sm d0
    have e1 := ed d0 rfl rfl rfl
    exact run_plain rfl ((y_add rfl e1 (w64 (by omega) (by omega))).mono (fun τ _ h => cvi (σ := τ) (by first | omega | exact (Int.natCast_mul _ _).symm) h))
  · intro ax tx hs okx sm d0 d1 d2 d3 d4
    have e2 := ed d0 rfl rfl rfl
    exact run_plain rfl (y_assign e2)
  intro a5 s5 D5
  have ok5 := D5.ok
  have F5 := F4.step0 D5.stp
  have q19 := D5.kt q13 rfl
  have q20 := D5.kt q14 rfl
  have q21 := D5.kt q16 rfl
  have q22 := D5.kt q18 rfl
  have q23 : At (Ty.nat (1 + (pick (calls) (3)))) s5 a5 (.tmp 11) := D5.done 3
  clear D5
  have q24 : At (Ty.nat C) s5 a5 (.tmp 11) := (cvi (by (rw [hC])) q23)
  refine tn ?_
  refine wp_seq ?_
  refine reg2 (a := a5) (σ := s5) rfl 7 (fun i_ => List.getD [(Ty.pr (Ty.lst Ty.int raw)), (Ty.pr (Ty.nat M)), (Ty.pr (Ty.int changes)), (Ty.pr (Ty.nat (pick (changes) (16)))), (Ty.pr (Ty.nat (1 + (pick (changes) (16))))), (Ty.pr (Ty.agg [(Ty.val (Value.string (ByteArray.mk #[84, 114, 105, 101, 100]))), (Ty.nat M), (Ty.lst Ty.ints L)])), (Pr.ownp 6 [(Ty.val (Value.string ByteArray.empty)), (Ty.int (0 : Int)), (Ty.val (Value.slice none 0 0))])] i_ Pr.any) ok5 rfl (by decide) rfl ⟨?_, ?_, ?_, ?_, ?_, ?_, ?_, trivial⟩ ?_
  · intro ax tx hs okx sm
    exact run_plain rfl (y_move (kp (sm 0 rfl) hs q19))
  · intro ax tx hs okx sm
    exact run_plain rfl (y_move (kp (sm 1 rfl) hs q22))
  · intro ax tx hs okx sm
    exact run_plain rfl (y_move (kp (sm 2 rfl) hs q20))
  · intro ax tx hs okx sm d0
    have e2 := ed d0 rfl rfl rfl
    exact run_plain rfl (y_call #[ax.eval (.tmp 30), ax.eval ((Operand.const (Value.int IntKind.i64 16)))] Try.func18 rfl rfl (by simp only [List.map_toArray, List.map_cons, List.map_nil]) (pick_fn (changes) (16) _ _ _ (cvi (σ := tx) (by omega) e2) (cvi (σ := tx) (by omega) rfl) (by omega) (by omega)))
  · intro ax tx hs okx sm d0
    have e3 := ed d0 rfl rfl rfl
    exact run_plain rfl ((y_add rfl e3 (w64 (by omega) (by omega))).mono (fun τ _ h => cvi (σ := τ) (by first | omega | exact (Int.natCast_mul _ _).symm) h))
  · intro ax tx hs okx sm d0 d1 d2 d3
    have e0 := ed d0 rfl rfl rfl
    have e1 := ed d1 rfl rfl rfl
    have e4 := ed d2 rfl rfl rfl
    exact run_plain rfl ((y_call #[ax.eval (.tmp 28), ax.eval (.tmp 29), ax.eval (.tmp 32)] Try.func19 rfl rfl (by simp only [List.map_toArray, List.map_cons, List.map_nil]) (methodOf_fn (raw) (M) ((1 + (pick (changes) (16)))) _ _ _ _ e0 (cvi (σ := tx) (by first | omega | exact hr | assumption) e1) (cvi (σ := tx) (by first | omega | exact hr | assumption) e4) (by first | omega | exact hr | assumption) (by first | omega | exact hr | assumption) (by first | omega | exact hr | assumption))).mono (fun τ _ h => cvt (σ := τ) (T := (Ty.agg [(Ty.val (Value.string (ByteArray.mk #[84, 114, 105, 101, 100]))), (Ty.nat (M)), (Ty.lst Ty.ints (changesOf raw 3 (M) ((1 + (pick (changes) (16))))))])) (U := (Ty.agg [(Ty.val (Value.string (ByteArray.mk #[84, 114, 105, 101, 100]))), (Ty.nat M), (Ty.lst Ty.ints L)])) (by rw [hL, hK]) h))
  · intro ax tx hs okx sm
    exact run_plain rfl (y_alloc Try.inf31 rfl (alloc_vals (vs := [.string ByteArray.empty, .int .i64 0, .slice none 0 0]) rfl))
  intro a6 s6 D6
  have ok6 := D6.ok
  have F6 := F5.step0 D6.stp
  have q25 := D6.kt q19 rfl
  have q26 := D6.kt q21 rfl
  have q27 := D6.kt q22 rfl
  have q28 := D6.kt q24 rfl
  have q29 : At (Ty.agg [(Ty.val (Value.string (ByteArray.mk #[84, 114, 105, 101, 100]))), (Ty.nat M), (Ty.lst Ty.ints L)]) s6 a6 (.tmp 33) := D6.done 5 (by decide)
  obtain ⟨x1, hx1⟩ : ∃ x, a6.eval (.tmp 12) = x := ⟨_, rfl⟩
  have q30 : At (Ty.val x1) s6 a6 (.tmp 12) := hx1
  have o1 : OwnP s6 6 x1 [(Ty.val (Value.string ByteArray.empty)), (Ty.int (0 : Int)), (Ty.val (Value.slice none 0 0))] := al2 (R := (Pr.ownp 6 [(Ty.val (Value.string ByteArray.empty)), (Ty.int (0 : Int)), (Ty.val (Value.slice none 0 0))])) hx1 (D6.done 6 (by decide))
  clear D6
  refine tailL0 (L := [6]) (R := (fun _ τ => OwnP τ 6 x1 [(Ty.val (Value.string (ByteArray.mk #[84, 114, 105, 101, 100]))), (Ty.nat M), (Ty.lst Ty.ints L)])) rfl rfl (YldM.toL (m_storeagg Try.inf31 (by decide) o1 q30 rfl q29 (by intro U hU; simp only [List.mem_cons, List.not_mem_nil, or_false] at hU; rcases hU with rfl | rfl | rfl <;> first | exact one_val rfl | exact one_sl | exact one_ref))) (fun v1 s7 hs1 r1 => ?_)
  have F7 := F6.stepL hs1 (by decide)
  have q31 := kpL hs1 (by decide) rfl q25
  have q32 := kpL hs1 (by decide) rfl q26
  have q33 := kpL hs1 (by decide) rfl q27
  have q34 := kpL hs1 (by decide) rfl q28
  have q35 := kpL hs1 (by decide) rfl q30
  have o2 : OwnP s7 6 x1 [(Ty.val (Value.string (ByteArray.mk #[84, 114, 105, 101, 100]))), (Ty.nat M), (Ty.lst Ty.ints L)] := r1
  clear r1
  refine wpList_nil ?_
  refine tn ?_
  refine wp_seq ?_
  refine reg (a := a6) (σ := s7) rfl (fun i_ => List.getD [(Ty.pr (Ty.lst Ty.int raw)), (Ty.pr (Ty.nat M)), (Ty.pr (Ty.nat C)), (Ty.pr (Ty.lstc 2 callC CS)), (Ty.pr (Ty.lstc 2 callC CS))] i_ Pr.any) ok6 rfl ⟨?_, ?_, ?_, ?_, ?_, trivial⟩ ?_
  · intro ax tx hs okx sm
    exact run_plain rfl (y_move (kp (sm 0 rfl) hs q31))
  · intro ax tx hs okx sm
    exact run_plain rfl (y_move (kp (sm 1 rfl) hs q33))
  · intro ax tx hs okx sm
    exact run_plain rfl (y_move (kp (sm 11 rfl) hs q34))
  · intro ax tx hs okx sm d0 d1 d2
    have e0 := ed d0 rfl rfl rfl
    have e1 := ed d1 rfl rfl rfl
    have e2 := ed d2 rfl rfl rfl
    exact run_plain rfl ((y_call #[ax.eval (.tmp 34), ax.eval (.tmp 35), ax.eval (.tmp 36)] Try.func20 rfl rfl (by simp only [List.map_toArray, List.map_cons, List.map_nil]) (callsOf_fn (raw) (M) (C) _ _ _ _ e0 (cvi (σ := tx) (by first | omega | exact hr | assumption) e1) (cvi (σ := tx) (by first | omega | exact hr | assumption) e2) (by first | omega | exact hr | assumption) (by first | omega | exact hr | assumption) (by first | omega | exact hr | assumption))).mono (fun τ _ h => cvt (σ := τ) (T := (Ty.lstc 2 callC (cOf raw (M) ((C) - 1)))) (U := (Ty.lstc 2 callC CS)) (by rw [hCS]) h))
  · intro ax tx hs okx sm d0 d1 d2 d3 d4 d5
    have e3 := ed d0 rfl rfl rfl
    exact run_plain rfl (y_assign e3)
  intro a7 s8 D7
  have ok7 := D7.ok
  have F8 := F7.step0 D7.stp
  have q37 := D7.kt q31 rfl
  have q38 := D7.kt q32 rfl
  have q39 := D7.kt q34 rfl
  have q40 := D7.kt q35 rfl
  have o3 := OwnP.k0 o2 D7.stp
  have q41 : At (Ty.lstc 2 callC CS) s8 a7 (.tmp 13) := D7.done 4
  clear D7
  refine tn ?_
  refine wp_seq ?_
  refine reg (a := a7) (σ := s8) rfl (fun i_ => List.getD [(Ty.pr (Ty.lst Ty.int raw)), (Ty.pr (Ty.int leads)), (Ty.pr (Ty.nat (pick (leads) (15)))), (Ty.pr (Ty.nat (1 + (pick (leads) (15))))), (Ty.pr (Ty.nat C)), (Ty.pr (Ty.lst Ty.int T)), (Ty.pr (Ty.lst Ty.int T))] i_ Pr.any) ok7 rfl ⟨?_, ?_, ?_, ?_, ?_, ?_, ?_, trivial⟩ ?_
  · intro ax tx hs okx sm
    exact run_plain rfl (y_move (kp (sm 0 rfl) hs q37))
  · intro ax tx hs okx sm
    exact run_plain rfl (y_move (kp (sm 4 rfl) hs q38))
  · intro ax tx hs okx sm d0
    have e1 := ed d0 rfl rfl rfl
    exact run_plain rfl (y_call #[ax.eval (.tmp 39), ax.eval ((Operand.const (Value.int IntKind.i64 15)))] Try.func18 rfl rfl (by simp only [List.map_toArray, List.map_cons, List.map_nil]) (pick_fn (leads) (15) _ _ _ (cvi (σ := tx) (by omega) e1) (cvi (σ := tx) (by omega) rfl) (by omega) (by omega)))
  · intro ax tx hs okx sm d0
    have e2 := ed d0 rfl rfl rfl
    exact run_plain rfl ((y_add rfl e2 (w64 (by omega) (by omega))).mono (fun τ _ h => cvi (σ := τ) (by first | omega | exact (Int.natCast_mul _ _).symm) h))
  · intro ax tx hs okx sm
    exact run_plain rfl (y_move (kp (sm 11 rfl) hs q39))
  · intro ax tx hs okx sm d0 d1 d2 d3
    have e0 := ed d0 rfl rfl rfl
    have e3 := ed d1 rfl rfl rfl
    have e4 := ed d2 rfl rfl rfl
    exact run_plain rfl ((y_call #[ax.eval (.tmp 38), ax.eval (.tmp 41), ax.eval (.tmp 42)] Try.func30 rfl rfl (by simp only [List.map_toArray, List.map_cons, List.map_nil]) (rLeadsOf_fn (raw) ((1 + (pick (leads) (15)))) (C) _ _ _ _ e0 (cvi (σ := tx) (by first | omega | assumption) e3) (cvi (σ := tx) (by first | omega | assumption) e4) (by first | omega | assumption) (by first | omega | assumption) (by first | omega | assumption))).mono (fun τ _ h => cvt (σ := τ) (T := (Ty.lst Ty.int (leadsOf raw ((1 + (pick (leads) (15)))) (C)))) (U := (Ty.lst Ty.int T)) (by rw [hT, hLN]) h))
  · intro ax tx hs okx sm d0 d1 d2 d3 d4 d5 d6 d7
    have e5 := ed d0 rfl rfl rfl
    exact run_plain rfl (y_assign e5)
  intro a8 s9 D8
  have ok8 := D8.ok
  have F9 := F8.step0 D8.stp
  have q42 := D8.kt q40 rfl
  have q43 := D8.kt q41 rfl
  have o4 := OwnP.k0 o3 D8.stp
  have q44 : At (Ty.lst Ty.int T) s9 a8 (.tmp 14) := D8.done 6
  clear D8
  refine tn ?_
  refine wp_seq ?_
  refine reg2 (a := a8) (σ := s9) rfl 8 (fun i_ => List.getD [(Ty.pr (Ty.agg [(Ty.val (Value.string (ByteArray.mk #[84, 114, 105, 101, 100]))), (Ty.nat M), (Ty.lst Ty.ints L)])), (Ty.pr (Ty.lstc 2 callC CS)), (Ty.pr (Ty.lst Ty.int T)), (Ty.pr (Ty.tup2 (Ty.agg [(Ty.nat (T.length * L.length)), (Ty.bool (rndB (tRows M L CS T T.length))), (Ty.bool (trueP M L CS T)), (Ty.nat (agnL (tRows M L CS T T.length))), (Ty.int (befL (tRows M L CS T T.length)))]) (Ty.int (0 : Int)))), (Ty.pr (Ty.tup2 (Ty.agg [(Ty.nat (T.length * L.length)), (Ty.bool (rndB (tRows M L CS T T.length))), (Ty.bool (trueP M L CS T)), (Ty.nat (agnL (tRows M L CS T T.length))), (Ty.int (befL (tRows M L CS T T.length)))]) (Ty.int (0 : Int)))), (Ty.pr (Ty.agg [(Ty.nat (T.length * L.length)), (Ty.bool (rndB (tRows M L CS T T.length))), (Ty.bool (trueP M L CS T)), (Ty.nat (agnL (tRows M L CS T T.length))), (Ty.int (befL (tRows M L CS T T.length)))])), (Ty.pr (Ty.int (0 : Int))), (Pr.ownp 7 [(Ty.int (0 : Int)), (Ty.bool false), (Ty.bool false), (Ty.int (0 : Int)), (Ty.int (0 : Int))])] i_ Pr.any) ok8 rfl (by decide) rfl ⟨?_, ?_, ?_, ?_, ?_, ?_, ?_, ?_, trivial⟩ ?_
  · intro ax tx hs okx sm
    exact run_plain rfl (ownp_loadagg Try.underlying31 Try.inf31 (OwnP.k0 o4 hs) (kp (sm 12 rfl) hs q42))
  · intro ax tx hs okx sm
    exact run_plain rfl (y_move (kp (sm 13 rfl) hs q43))
  · intro ax tx hs okx sm
    exact run_plain rfl (y_move (kp (sm 14 rfl) hs q44))
  · intro ax tx hs okx sm d0 d1 d2
    have e0 := ed d0 rfl rfl rfl
    have e1 := ed d1 rfl rfl rfl
    have e2 := ed d2 rfl rfl rfl
    exact run_plain rfl ((y_call #[ax.eval (.tmp 45), ax.eval (.tmp 46), ax.eval (.tmp 47)] Try.func22 rfl rfl (by simp only [List.map_toArray, List.map_cons, List.map_nil]) (prove_fn ((ByteArray.mk #[84, 114, 105, 101, 100])) (((M : Nat) : Int)) (L) (CS) (T) _ _ _ _ e0 e1 e2 (by first | omega | assumption) (by first | omega | assumption))).mono (fun τ _ h => cvt (σ := τ) (T := (Ty.tup2 (Ty.agg [(Ty.nat (if touchMay ((ByteArray.mk #[84, 114, 105, 101, 100])) (((M : Nat) : Int)) (L) (CS) (T) = 0 then (T).length * (L).length else 0)), (Ty.bool (if touchMay ((ByteArray.mk #[84, 114, 105, 101, 100])) (((M : Nat) : Int)) (L) (CS) (T) = 0 then rndB (tRows (((M : Nat) : Int)).toNat (L) (CS) (T) (T).length) else false)), (Ty.bool (if touchMay ((ByteArray.mk #[84, 114, 105, 101, 100])) (((M : Nat) : Int)) (L) (CS) (T) = 0 then (prO (tRows (((M : Nat) : Int)).toNat (L) (CS) (T) (T).length)).isNone else false)), (Ty.nat (if touchMay ((ByteArray.mk #[84, 114, 105, 101, 100])) (((M : Nat) : Int)) (L) (CS) (T) = 0 then agnL (tRows (((M : Nat) : Int)).toNat (L) (CS) (T) (T).length) else 0)), (Ty.int (if touchMay ((ByteArray.mk #[84, 114, 105, 101, 100])) (((M : Nat) : Int)) (L) (CS) (T) = 0 then befL (tRows (((M : Nat) : Int)).toNat (L) (CS) (T) (T).length) else 0))]) (Ty.int (touchMay ((ByteArray.mk #[84, 114, 105, 101, 100])) (((M : Nat) : Int)) (L) (CS) (T))))) (U := (Ty.tup2 (Ty.agg [(Ty.nat (T.length * L.length)), (Ty.bool (rndB (tRows M L CS T T.length))), (Ty.bool (trueP M L CS T)), (Ty.nat (agnL (tRows M L CS T T.length))), (Ty.int (befL (tRows M L CS T T.length)))]) (Ty.int (0 : Int)))) (by simp only [if_pos htT, htT, htn]; rfl) h))
  · intro ax tx hs okx sm d0
    have e3 := ed d0 rfl rfl rfl
    exact run_plain rfl (y_move e3)
  · intro ax tx hs okx sm d0
    have e4 := ed d0 rfl rfl rfl
    exact run_plain rfl (y_ext2_0 e4)
  · intro ax tx hs okx sm d0 d1
    have e4 := ed d0 rfl rfl rfl
    exact run_plain rfl (y_ext2_1 e4)
  · intro ax tx hs okx sm
    exact run_plain rfl (y_alloc Try.inf42 rfl (alloc_vals (vs := [.int .i64 0, .bool false, .bool false, .int .i64 0, .int .i64 0]) rfl))
  intro a9 s10 D9
  have ok9 := D9.ok
  have F10 := F9.step0 D9.stp
  have q45 := D9.kt q42 rfl
  have q46 := D9.kt q43 rfl
  have q47 := D9.kt q44 rfl
  have o5 := OwnP.k0 o4 D9.stp
  have q48 : At (Ty.agg [(Ty.nat (T.length * L.length)), (Ty.bool (rndB (tRows M L CS T T.length))), (Ty.bool (trueP M L CS T)), (Ty.nat (agnL (tRows M L CS T T.length))), (Ty.int (befL (tRows M L CS T T.length)))]) s10 a9 (.tmp 49) := D9.done 5 (by decide)
  have q49 : At (Ty.int (0 : Int)) s10 a9 (.tmp 50) := D9.done 6 (by decide)
  obtain ⟨x2, hx2⟩ : ∃ x, a9.eval (.tmp 15) = x := ⟨_, rfl⟩
  have q50 : At (Ty.val x2) s10 a9 (.tmp 15) := hx2
  have o6 : OwnP s10 7 x2 [(Ty.int (0 : Int)), (Ty.bool false), (Ty.bool false), (Ty.int (0 : Int)), (Ty.int (0 : Int))] := al2 (R := (Pr.ownp 7 [(Ty.int (0 : Int)), (Ty.bool false), (Ty.bool false), (Ty.int (0 : Int)), (Ty.int (0 : Int))])) hx2 (D9.done 7 (by decide))
  clear D9
  refine tailL0 (L := [7]) (R := (fun _ τ => OwnP τ 7 x2 [(Ty.nat (T.length * L.length)), (Ty.bool (rndB (tRows M L CS T T.length))), (Ty.bool (trueP M L CS T)), (Ty.nat (agnL (tRows M L CS T T.length))), (Ty.int (befL (tRows M L CS T T.length)))])) rfl rfl (YldM.toL (m_storeagg Try.inf42 (by decide) o6 q50 rfl q48 (by intro U hU; simp only [List.mem_cons, List.not_mem_nil, or_false] at hU; rcases hU with rfl | rfl | rfl | rfl | rfl <;> first | exact one_val rfl | exact one_sl | exact one_ref))) (fun v2 s11 hs2 r2 => ?_)
  have F11 := F10.stepL hs2 (by decide)
  have q51 := kpL hs2 (by decide) rfl q45
  have q52 := kpL hs2 (by decide) rfl q46
  have q53 := kpL hs2 (by decide) rfl q47
  have q54 := kpL hs2 (by decide) rfl q49
  have q55 := kpL hs2 (by decide) rfl q50
  have o8 := OwnP.keepL o5 hs2 (by decide) (by decide)
  have o7 : OwnP s11 7 x2 [(Ty.nat (T.length * L.length)), (Ty.bool (rndB (tRows M L CS T T.length))), (Ty.bool (trueP M L CS T)), (Ty.nat (agnL (tRows M L CS T T.length))), (Ty.int (befL (tRows M L CS T T.length)))] := r2
  clear r2
  refine tailL (L := []) (R := (fun v τ => Pr.has (Ty.pr (Ty.int (0 : Int))) τ v)) rfl rfl (by decide) ok9 (Yld.toL (y_assign q54)) (fun a10 s12 hs3 ok10 r3 sm1 => ?_)
  have F12 := F11.stepL hs3 (by decide)
  have q57 := kpL hs3 (by decide) (sm1 12 (by decide)) q51
  have q58 := kpL hs3 (by decide) (sm1 13 (by decide)) q52
  have q59 := kpL hs3 (by decide) (sm1 14 (by decide)) q53
  have q60 := kpL hs3 (by decide) (sm1 15 (by decide)) q55
  have o9 := OwnP.keepL o8 hs3 (by decide) (by decide)
  have o10 := OwnP.keepL o7 hs3 (by decide) (by decide)
  have q61 : At (Ty.int (0 : Int)) s12 a10 (.tmp 16) := r3
  clear r3
  refine wpList_nil ?_
  refine tn ?_
  refine wp_seq ?_
  refine reg (a := a10) (σ := s12) rfl (fun i_ => List.getD [(Ty.pr (Ty.agg [(Ty.val (Value.string (ByteArray.mk #[84, 114, 105, 101, 100]))), (Ty.nat M), (Ty.lst Ty.ints L)])), (Ty.pr (Ty.lstc 2 callC CS)), (Ty.pr (Ty.lst Ty.int T)), (Ty.pr (Ty.tup2 (Ty.bool (trueP M L CS T)) (Ty.int (0 : Int)))), (Ty.pr (Ty.tup2 (Ty.bool (trueP M L CS T)) (Ty.int (0 : Int)))), (Ty.pr (Ty.bool (trueP M L CS T))), (Ty.pr (Ty.int (0 : Int))), (Ty.pr (Ty.bool (trueP M L CS T))), (Ty.pr (Ty.int (0 : Int)))] i_ Pr.any) ok10 rfl ⟨?_, ?_, ?_, ?_, ?_, ?_, ?_, ?_, ?_, trivial⟩ ?_
  · intro ax tx hs okx sm
    exact run_plain rfl (ownp_loadagg Try.underlying31 Try.inf31 (OwnP.k0 o9 hs) (kp (sm 12 rfl) hs q57))
  · intro ax tx hs okx sm
    exact run_plain rfl (y_move (kp (sm 13 rfl) hs q58))
  · intro ax tx hs okx sm
    exact run_plain rfl (y_move (kp (sm 14 rfl) hs q59))
  · intro ax tx hs okx sm d0 d1 d2
    have e0 := ed d0 rfl rfl rfl
    have e1 := ed d1 rfl rfl rfl
    have e2 := ed d2 rfl rfl rfl
    exact run_plain rfl ((y_call #[ax.eval (.tmp 52), ax.eval (.tmp 53), ax.eval (.tmp 54)] Try.func24 rfl rfl (by simp only [List.map_toArray, List.map_cons, List.map_nil]) (byHeads_fn ((ByteArray.mk #[84, 114, 105, 101, 100])) (((M : Nat) : Int)) (L) (CS) (T) _ _ _ _ e0 e1 e2 (by first | omega | assumption) (by first | omega | assumption))).mono (fun τ _ h => cvt (σ := τ) (T := (Ty.tup2 (Ty.bool (if touchMay ((ByteArray.mk #[84, 114, 105, 101, 100])) (((M : Nat) : Int)) (L) (CS) (T) = 0 then (oneB (CS) (T) && ((!(sfTo ((fromL (roundsL (((M : Nat) : Int)).toNat) (L)).take (L).length) ((fromL (roundsL (((M : Nat) : Int)).toNat) (L)).take (L).length).length ((fromL (roundsL (((M : Nat) : Int)).toNat) (L)).take (L).length).length)) && bhTo (addS [0] (onceL (enTo ((fromL (roundsL (((M : Nat) : Int)).toNat) (L)).take (L).length) ((fromL (roundsL (((M : Nat) : Int)).toNat) (L)).take (L).length).length ((fromL (roundsL (((M : Nat) : Int)).toNat) (L)).take (L).length).length))) (tHds (((M : Nat) : Int)).toNat (L) (CS) (T) (T).length) (T).length)) else false)) (Ty.int (if touchMay ((ByteArray.mk #[84, 114, 105, 101, 100])) (((M : Nat) : Int)) (L) (CS) (T) = 0 then (if oneB (CS) (T) = true then 0 else 11) else touchMay ((ByteArray.mk #[84, 114, 105, 101, 100])) (((M : Nat) : Int)) (L) (CS) (T))))) (U := (Ty.tup2 (Ty.bool (trueP M L CS T)) (Ty.int (0 : Int)))) (by rw [if_pos htT, if_pos htT, hone, htn, Bool.true_and, if_pos rfl, hbh]) h))
  · intro ax tx hs okx sm d0
    have e3 := ed d0 rfl rfl rfl
    exact run_plain rfl (y_move e3)
  · intro ax tx hs okx sm d0
    have e4 := ed d0 rfl rfl rfl
    exact run_plain rfl (y_ext2_0 e4)
  · intro ax tx hs okx sm d0 d1
    have e4 := ed d0 rfl rfl rfl
    exact run_plain rfl (y_ext2_1 e4)
  · intro ax tx hs okx sm d0 d1 d2 d3 d4 d5 d6 d7 d8
    have e5 := ed d0 rfl rfl rfl
    exact run_plain rfl (y_assign e5)
  · intro ax tx hs okx sm d0 d1 d2 d3 d4 d5 d6 d7 d8 d9
    have e6 := ed d0 rfl rfl rfl
    exact run_plain rfl (y_assign e6)
  intro a11 s13 D10
  have ok11 := D10.ok
  have F13 := F12.step0 D10.stp
  have q62 := D10.kt q57 rfl
  have q63 := D10.kt q59 rfl
  have q64 := D10.kt q60 rfl
  have q65 := D10.kt q61 rfl
  have o11 := OwnP.k0 o9 D10.stp
  have o12 := OwnP.k0 o10 D10.stp
  have q66 : At (Ty.bool (trueP M L CS T)) s13 a11 (.tmp 17) := D10.done 7
  have q67 : At (Ty.int (0 : Int)) s13 a11 (.tmp 18) := D10.done 8
  clear D10
  refine tn ?_
  refine wp_seq ?_
  refine reg (a := a11) (σ := s13) rfl (fun i_ => List.getD [(Ty.pr (Ty.int (0 : Int))), (Ty.pr (Ty.bool true)), (Ty.pr (Ty.bool true)), (Ty.pr (Ty.grd (true = true) (Ty.int (0 : Int)))), (Ty.pr (Ty.grd (true = true) (Ty.bool true))), (Ty.pr (Ty.bool (true && true))), (Ty.pr (Ty.bool (true && true))), (Ty.pr (Ty.grd ((true && true) = true) (Ty.val (ptrAt x2 2)))), (Ty.pr (Ty.grd ((true && true) = true) (Ty.bool (trueP M L CS T)))), (Ty.pr (Ty.grd ((true && true) = true) (Ty.bool (trueP M L CS T)))), (Ty.pr (Ty.grd ((true && true) = true) (Ty.bool ((trueP M L CS T) == (trueP M L CS T))))), (Ty.pr (Ty.bool ((true && true) && ((trueP M L CS T) == (trueP M L CS T))))), (Ty.pr (Ty.bool ((true && true) && ((trueP M L CS T) == (trueP M L CS T))))), (Ty.pr (Ty.grd (((true && true) && ((trueP M L CS T) == (trueP M L CS T))) = true) (Ty.val (ptrAt x2 0)))), (Ty.pr (Ty.grd (((true && true) && ((trueP M L CS T) == (trueP M L CS T))) = true) (Ty.nat (T.length * L.length)))), (Ty.pr (Ty.grd (((true && true) && ((trueP M L CS T) == (trueP M L CS T))) = true) (Ty.lst Ty.int T))), (Ty.pr (Ty.grd (((true && true) && ((trueP M L CS T) == (trueP M L CS T))) = true) (Ty.nat (List.length T)))), (Ty.pr (Ty.grd (((true && true) && ((trueP M L CS T) == (trueP M L CS T))) = true) (Ty.val (ptrAt x1 2)))), (Ty.pr (Ty.grd (((true && true) && ((trueP M L CS T) == (trueP M L CS T))) = true) (Ty.lst Ty.ints L))), (Ty.pr (Ty.grd (((true && true) && ((trueP M L CS T) == (trueP M L CS T))) = true) (Ty.nat (List.length L)))), (Ty.pr (Ty.grd (((true && true) && ((trueP M L CS T) == (trueP M L CS T))) = true) (Ty.nat ((List.length T) * (List.length L))))), (Ty.pr (Ty.grd (((true && true) && ((trueP M L CS T) == (trueP M L CS T))) = true) (Ty.bool (decide ((((T.length * L.length) : Nat) : Int) = ((((List.length T) * (List.length L)) : Nat) : Int)))))), (Ty.pr (Ty.bool (((true && true) && ((trueP M L CS T) == (trueP M L CS T))) && (decide ((((T.length * L.length) : Nat) : Int) = ((((List.length T) * (List.length L)) : Nat) : Int)))))), (Ty.pr (Ty.bool (((true && true) && ((trueP M L CS T) == (trueP M L CS T))) && (decide ((((T.length * L.length) : Nat) : Int) = ((((List.length T) * (List.length L)) : Nat) : Int))))))] i_ Pr.any) ok11 rfl ⟨?_, ?_, ?_, ?_, ?_, ?_, ?_, ?_, ?_, ?_, ?_, ?_, ?_, ?_, ?_, ?_, ?_, ?_, ?_, ?_, ?_, ?_, ?_, ?_, trivial⟩ ?_
  · intro ax tx hs okx sm
    exact run_plain rfl (y_move (kp (sm 16 rfl) hs q65))
  · intro ax tx hs okx sm d0
    have e0 := ed d0 rfl rfl rfl
    exact run_plain rfl ((y_eql e0 rfl).mono (fun τ _ h => cvb (σ := τ) (by decide) h))
  · intro ax tx hs okx sm d0
    have e1 := ed d0 rfl rfl rfl
    exact run_plain rfl (y_move e1)
  · intro ax tx hs okx sm d0
    have e2 := ed d0 rfl rfl rfl
    refine run_guard (T := (Ty.int (0 : Int))) okx rfl rfl (by decide) e2 (fun hg => ?_)
    exact y_move (kp (sm 18 rfl) hs q67)
  · intro ax tx hs okx sm d0 d1
    have e3 := ed d0 rfl rfl rfl
    have e2 := ed d1 rfl rfl rfl
    refine run_guard (T := (Ty.bool true)) okx rfl rfl (by decide) e2 (fun hg => ?_)
    exact (y_eql (e3.1 hg) rfl).mono (fun τ _ h => cvb (σ := τ) (by decide) h)
  · intro ax tx hs okx sm d0 d1
    have e2 := ed d0 rfl rfl rfl
    have e4 := ed d1 rfl rfl rfl
    exact run_plain rfl (y_pick_and e2 e4 rfl)
  · intro ax tx hs okx sm d0 d1
    have e5 := ed d0 rfl rfl rfl
    exact run_plain rfl (y_move e5)
  · intro ax tx hs okx sm d0
    have e6 := ed d0 rfl rfl rfl
    refine run_guard (T := (Ty.val (ptrAt x2 2))) okx rfl rfl (by decide) e6 (fun hg => ?_)
    obtain ⟨d1, d2⟩ := Bool.and_eq_true_iff.mp hg
    exact ownp_field Try.fld42_2 Try.inf4 (by decide) (OwnP.k0 o12 hs) (kp (sm 15 rfl) hs q64)
  · intro ax tx hs okx sm d0 d1
    have e7 := ed d0 rfl rfl rfl
    have e6 := ed d1 rfl rfl rfl
    refine run_guard (T := (Ty.bool (trueP M L CS T))) okx rfl rfl (by decide) e6 (fun hg => ?_)
    obtain ⟨d3, d4⟩ := Bool.and_eq_true_iff.mp hg
    exact ownp_load Try.underlying4 rfl (OwnP.k0 o12 hs) (e7.1 hg) rfl
  · intro ax tx hs okx sm d0
    have e6 := ed d0 rfl rfl rfl
    refine run_guard (T := (Ty.bool (trueP M L CS T))) okx rfl rfl (by decide) e6 (fun hg => ?_)
    obtain ⟨d5, d6⟩ := Bool.and_eq_true_iff.mp hg
    exact y_move (kp (sm 17 rfl) hs q66)
  · intro ax tx hs okx sm d0 d1 d2
    have e8 := ed d0 rfl rfl rfl
    have e9 := ed d1 rfl rfl rfl
    have e6 := ed d2 rfl rfl rfl
    refine run_guard (T := (Ty.bool ((trueP M L CS T) == (trueP M L CS T)))) okx rfl rfl (by decide) e6 (fun hg => ?_)
    obtain ⟨d7, d8⟩ := Bool.and_eq_true_iff.mp hg
    exact y_eqlB Try.underlying4 (e8.1 hg) (e9.1 hg)
  · intro ax tx hs okx sm d0 d1
    have e6 := ed d0 rfl rfl rfl
    have e10 := ed d1 rfl rfl rfl
    exact run_plain rfl (y_pick_and e6 e10 rfl)
  · intro ax tx hs okx sm d0 d1
    have e11 := ed d0 rfl rfl rfl
    exact run_plain rfl (y_move e11)
  · intro ax tx hs okx sm d0
    have e12 := ed d0 rfl rfl rfl
    refine run_guard (T := (Ty.val (ptrAt x2 0))) okx rfl rfl (by decide) e12 (fun hg => ?_)
    obtain ⟨d9, d10⟩ := Bool.and_eq_true_iff.mp hg
    obtain ⟨d11, d12⟩ := Bool.and_eq_true_iff.mp d9
    exact ownp_field Try.fld42_0 Try.inf3 (by decide) (OwnP.k0 o12 hs) (kp (sm 15 rfl) hs q64)
  · intro ax tx hs okx sm d0 d1
    have e13 := ed d0 rfl rfl rfl
    have e12 := ed d1 rfl rfl rfl
    refine run_guard (T := (Ty.nat (T.length * L.length))) okx rfl rfl (by decide) e12 (fun hg => ?_)
    obtain ⟨d13, d14⟩ := Bool.and_eq_true_iff.mp hg
    obtain ⟨d15, d16⟩ := Bool.and_eq_true_iff.mp d13
    exact ownp_load Try.underlying3 rfl (OwnP.k0 o12 hs) (e13.1 hg) rfl
  · intro ax tx hs okx sm d0
    have e12 := ed d0 rfl rfl rfl
    refine run_guard (T := (Ty.lst Ty.int T)) okx rfl rfl (by decide) e12 (fun hg => ?_)
    obtain ⟨d17, d18⟩ := Bool.and_eq_true_iff.mp hg
    obtain ⟨d19, d20⟩ := Bool.and_eq_true_iff.mp d17
    exact y_move (kp (sm 14 rfl) hs q63)
  · intro ax tx hs okx sm d0 d1
    have e15 := ed d0 rfl rfl rfl
    have e12 := ed d1 rfl rfl rfl
    refine run_guard (T := (Ty.nat (List.length T))) okx rfl rfl (by decide) e12 (fun hg => ?_)
    obtain ⟨d21, d22⟩ := Bool.and_eq_true_iff.mp hg
    obtain ⟨d23, d24⟩ := Bool.and_eq_true_iff.mp d21
    exact y_len Try.underlying23 (e15.1 hg)
  · intro ax tx hs okx sm d0
    have e12 := ed d0 rfl rfl rfl
    refine run_guard (T := (Ty.val (ptrAt x1 2))) okx rfl rfl (by decide) e12 (fun hg => ?_)
    obtain ⟨d25, d26⟩ := Bool.and_eq_true_iff.mp hg
    obtain ⟨d27, d28⟩ := Bool.and_eq_true_iff.mp d25
    exact ownp_field Try.fld31_2 Try.inf29 (by decide) (OwnP.k0 o11 hs) (kp (sm 12 rfl) hs q62)
  · intro ax tx hs okx sm d0 d1
    have e17 := ed d0 rfl rfl rfl
    have e12 := ed d1 rfl rfl rfl
    refine run_guard (T := (Ty.lst Ty.ints L)) okx rfl rfl (by decide) e12 (fun hg => ?_)
    obtain ⟨d29, d30⟩ := Bool.and_eq_true_iff.mp hg
    obtain ⟨d31, d32⟩ := Bool.and_eq_true_iff.mp d29
    exact ownp_load Try.underlying29 rfl (OwnP.k0 o11 hs) (e17.1 hg) rfl
  · intro ax tx hs okx sm d0 d1
    have e18 := ed d0 rfl rfl rfl
    have e12 := ed d1 rfl rfl rfl
    refine run_guard (T := (Ty.nat (List.length L))) okx rfl rfl (by decide) e12 (fun hg => ?_)
    obtain ⟨d33, d34⟩ := Bool.and_eq_true_iff.mp hg
    obtain ⟨d35, d36⟩ := Bool.and_eq_true_iff.mp d33
    exact y_len Try.underlying29 (e18.1 hg)
  · intro ax tx hs okx sm d0 d1 d2
    have e16 := ed d0 rfl rfl rfl
    have e19 := ed d1 rfl rfl rfl
    have e12 := ed d2 rfl rfl rfl
    refine run_guard (T := (Ty.nat ((List.length T) * (List.length L)))) okx rfl rfl (by decide) e12 (fun hg => ?_)
    obtain ⟨d37, d38⟩ := Bool.and_eq_true_iff.mp hg
    obtain ⟨d39, d40⟩ := Bool.and_eq_true_iff.mp d37
    exact (y_mul (e16.1 hg) (e19.1 hg) (w64 (by omega) (by omega))).mono (fun τ _ h => cvi (σ := τ) (by first | omega | exact (Int.natCast_mul _ _).symm) h)
  · intro ax tx hs okx sm d0 d1 d2
    have e14 := ed d0 rfl rfl rfl
    have e20 := ed d1 rfl rfl rfl
    have e12 := ed d2 rfl rfl rfl
    refine run_guard (T := (Ty.bool (decide ((((T.length * L.length) : Nat) : Int) = ((((List.length T) * (List.length L)) : Nat) : Int))))) okx rfl rfl (by decide) e12 (fun hg => ?_)
    obtain ⟨d41, d42⟩ := Bool.and_eq_true_iff.mp hg
    obtain ⟨d43, d44⟩ := Bool.and_eq_true_iff.mp d41
    exact y_eql (e14.1 hg) (e20.1 hg)
  · intro ax tx hs okx sm d0 d1
    have e12 := ed d0 rfl rfl rfl
    have e21 := ed d1 rfl rfl rfl
    exact run_plain rfl (y_pick_and e12 e21 rfl)
  · intro ax tx hs okx sm d0 d1 d2 d3 d4 d5 d6 d7 d8 d9 d10 d11 d12 d13 d14 d15 d16 d17 d18 d19 d20 d21 d22 d23 d24
    have e22 := ed d0 rfl rfl rfl
    exact run_plain rfl (y_assign e22)
  intro a12 s14 D11
  have ok12 := D11.ok
  have F14 := F13.step0 D11.stp
  have o13 := OwnP.k0 o11 D11.stp
  have o14 := OwnP.k0 o12 D11.stp
  have q68 : At (Ty.bool (((true && true) && ((trueP M L CS T) == (trueP M L CS T))) && (decide ((((T.length * L.length) : Nat) : Int) = ((((List.length T) * (List.length L)) : Nat) : Int))))) s14 a12 (.tmp 10) := D11.done 23
  clear D11
  refine tn ?_
  refine wp_ret ?_
  exact retL1 rfl ok12 F14 (cvb (by (simp)) q68)


end Go.Proofs.Ytbilebfnanlgfaa
