/- The functions that the law TruthMade reaches, each by its contract. Part 7. -/
import Derived.Test.YtbilebfnanlgfaaTruthMadeW6
namespace Go.Proofs.Ytbilebfnanlgfaa
open Go.KL

set_option maxHeartbeats 4000000 in
set_option maxRecDepth 100000 in
theorem byHeads_fn (nm : ByteArray) (n : Int) (l : List (List Int)) (cs : List BCall) (leads : List Int) (σ : GW)  (v0 v1 v2 : Value) (hv0 : Ty.has (Ty.agg [(Ty.val (Value.string nm)), (Ty.int n), (Ty.lst Ty.ints l)]) σ v0) (hv1 : Ty.has (Ty.lstc 2 callC cs) σ v1) (hv2 : Ty.has (Ty.lst Ty.int leads) σ v2)  (hnm : nm.size ≤ 1099511627776) (hn : -9223372036854775808 ≤ n ∧ n ≤ 9223372036854775807) :
    FnC Try.prog 24 #[v0, v1, v2] σ (Ty.tup2 (Ty.bool (if touchMay nm n l cs leads = 0 then (oneB cs leads && ((!(sfTo ((fromL (roundsL n.toNat) l).take l.length) ((fromL (roundsL n.toNat) l).take l.length).length ((fromL (roundsL n.toNat) l).take l.length).length)) && bhTo (addS [0] (onceL (enTo ((fromL (roundsL n.toNat) l).take l.length) ((fromL (roundsL n.toNat) l).take l.length).length ((fromL (roundsL n.toNat) l).take l.length).length))) (tHds n.toNat l cs leads leads.length) leads.length)) else false)) (Ty.int (if touchMay nm n l cs leads = 0 then (if oneB cs leads = true then 0 else 11) else touchMay nm n l cs leads))) := by
 refine fn_intro0 Try.func24 rfl Try.ntmps24 (Nat.le_of_ble_eq_true rfl) (fun s0 a0 hle F0 ok0 hargs => ?_)
 have p0 : At (Ty.agg [(Ty.val (Value.string nm)), (Ty.int n), (Ty.lst Ty.ints l)]) s0 a0 (.tmp 0) := by have e := hargs 0 _ rfl; show Ty.has _ _ _; rw [e]; exact Ty.up _ hle hv0
 have p1 : At (Ty.lstc 2 callC cs) s0 a0 (.tmp 1) := by have e := hargs 1 _ rfl; show Ty.has _ _ _; rw [e]; exact Ty.up _ hle hv1
 have b1 := sl_le p1
 have p2 : At (Ty.lst Ty.int leads) s0 a0 (.tmp 2) := by have e := hargs 2 _ rfl; show Ty.has _ _ _; rw [e]; exact Ty.up _ hle hv2
 have b2 := sl_le p2
 clear hargs; refine wp_seq ?_
 refine rg a0 s0 [(Ty.ref [(Ty.val (Value.string nm)), (Ty.int n), (Ty.lst Ty.ints l)]), (Ty.bool false), (Ty.int (0 : Int))] ok0 ⟨?_, ?_, ?_, trivial⟩ ?_
 · intro A B E G H; exact rP (y_boxagg (kp (H 0 rfl) E p0))
 · intro A B E G H; exact rP (y_assign rfl)
 · intro A B E G H d0; exact rP (y_assign rfl)
 intro a1 s1 D1; have ok1 := D1.ok; have F1 := F0.step0 D1.stp; have q1 := D1.kt p1 rfl; have q2 := D1.kt p2 rfl; have q3 := D1.dn 0 rfl rfl; clear D1; refine tn ?_; refine wp_seq ?_
 refine rg a1 s1 [(Ty.agg [(Ty.val (Value.string nm)), (Ty.int n), (Ty.lst Ty.ints l)]), (Ty.lstc 2 callC cs), (Ty.lst Ty.int leads), (Ty.tup2 (Ty.lst Ty.ints (if touchMay nm n l cs leads = 0 then (tHds n.toNat l cs leads leads.length) else [])) (Ty.int (touchMay nm n l cs leads))), (Ty.tup2 (Ty.lst Ty.ints (if touchMay nm n l cs leads = 0 then (tHds n.toNat l cs leads leads.length) else [])) (Ty.int (touchMay nm n l cs leads))), (Ty.lst Ty.ints (if touchMay nm n l cs leads = 0 then (tHds n.toNat l cs leads leads.length) else [])), (Ty.int (touchMay nm n l cs leads)), (Ty.lst Ty.ints (if touchMay nm n l cs leads = 0 then (tHds n.toNat l cs leads leads.length) else [])), (Ty.int (touchMay nm n l cs leads))] ok1 ⟨?_, ?_, ?_, ?_, ?_, ?_, ?_, ?_, ?_, trivial⟩ ?_
 · intro A B E G H; exact rP (y_loadagg Try.underlying31 Try.inf31 (kp (H 3 rfl) E q3))
 · intro A B E G H; exact rP (y_move (kp (H 1 rfl) E q1))
 · intro A B E G H; exact rP (y_move (kp (H 2 rfl) E q2))
 · intro A B E G H d0 d1 d2; exact rP (y_call #[A.eval (.tmp 25), A.eval (.tmp 26), A.eval (.tmp 27)] Try.func23 rfl rfl (by simp only [List.map_toArray, List.map_cons, List.map_nil]) (heads_fn (nm) (n) (l) (cs) (leads) _ _ _ _ (ed d0 rfl rfl rfl) (ed d1 rfl rfl rfl) (ed d2 rfl rfl rfl) (by first | omega | assumption) (by first | omega | assumption)))
 · intro A B E G H d0; exact rP (y_move (ed d0 rfl rfl rfl))
 · intro A B E G H d0; exact rP (y_ext2_0 (ed d0 rfl rfl rfl))
 · intro A B E G H d0 d1; exact rP (y_ext2_1 (ed d0 rfl rfl rfl))
 · intro A B E G H d0 d1 d2 d3 d4 d5 d6 d7 d8; exact rP (y_assign (ed d0 rfl rfl rfl))
 · intro A B E G H d0 d1 d2 d3 d4 d5 d6 d7 d8 d9; exact rP (y_assign (ed d0 rfl rfl rfl))
 intro a2 s2 D2; have ok2 := D2.ok; have F2 := F1.step0 D2.stp; have q4 := D2.kt q1 rfl; have q5 := D2.kt q2 rfl; have q6 := D2.kt q3 rfl; have q7 := D2.dn 7 rfl rfl; have q8 := D2.dn 8 rfl rfl; clear D2; refine tn ?_; refine wp_seq ?_; refine wp_seq ?_
 refine rg a2 s2 [(Ty.int (touchMay nm n l cs leads)), (Ty.bool (decide ((touchMay nm n l cs leads) ≠ (0 : Int))))] ok2 ⟨?_, ?_, trivial⟩ ?_
 · intro A B E G H; exact rP (y_move (kp (H 9 rfl) E q8))
 · intro A B E G H d0; exact rP (y_neq (ed d0 rfl rfl rfl) rfl)
 intro a3 s3 D3; have ok3 := D3.ok; have F3 := F2.step0 D3.stp; have q9 := D3.kt q4 rfl; have q10 := D3.kt q5 rfl; have q11 := D3.kt q6 rfl; have q12 := D3.kt q7 rfl; have q13 := D3.kt q8 rfl; have q14 := D3.dn 1 rfl rfl; clear D3; refine tn ?_
 refine cond_p (p := ((touchMay nm n l cs leads) ≠ (0 : Int))) q14 (fun c1 => ?_) (fun c1 => ?_)
 ·
  refine wp_seq ?_
  refine rg a3 s3 [(Ty.int (touchMay nm n l cs leads)), (Ty.bool false), (Ty.int (touchMay nm n l cs leads))] ok3 ⟨?_, ?_, ?_, trivial⟩ ?_
  · intro A B E G H d0; exact rP (y_move (kp (H 9 rfl) E q13))
  · intro A B E G H d0; exact rP (y_assign rfl)
  · intro A B E G H d0 d1 d2 d3; exact rP (y_assign (ed d0 rfl rfl rfl))
  intro a4 s4 D4; have ok4 := D4.ok; have F4 := F3.step0 D4.stp; have q15 := D4.dn 1 rfl rfl; have q16 := D4.dn 2 rfl rfl; clear D4; refine tn ?_; refine wp_ret ?_; refine tr ?_
  exact retL2 rfl ok4 F4 (hasT2 (cvb (by (rw [if_neg c1])) q15) (cvi (by (rw [if_neg c1])) q16))
 ·
  have h0 := Classical.not_not.1 c1; obtain ⟨hok, hnn, hlo, hlh, hin, hlim⟩ := touchMay_ok h0; have hl1 := hok.meth.l1; have hl2 := hok.meth.l2; have hn1 := hok.meth.n1; have hn2 := hok.meth.n2; have hm0 : methMay nm n l = 0 := (by have h_ := hok.meth.may; rwa [hnn] at h_); obtain ⟨HD, hHD⟩ : ∃ HD, HD = (tHds n.toNat l cs leads leads.length) := ⟨_, rfl⟩; have hHl : HD.length = leads.length := (by rw [hHD]; exact tHds_len _ _ _ _ _); have hHr : ∀ i, i < HD.length → IsRow (HD.getD i []) ∧ (HD.getD i []).length = n.toNat := (fun i hi => by (rw [hHD, tHds_get (by omega)]; exact tHd_row hok hin i (by omega))); obtain ⟨F, hF⟩ : ∃ F, F = (onceL (enTo ((fromL (roundsL n.toNat) l).take l.length) ((fromL (roundsL n.toNat) l).take l.length).length ((fromL (roundsL n.toNat) l).take l.length).length)) := ⟨_, rfl⟩; obtain ⟨SF, hSF⟩ : ∃ SF, SF = (sfTo ((fromL (roundsL n.toNat) l).take l.length) ((fromL (roundsL n.toNat) l).take l.length).length ((fromL (roundsL n.toNat) l).take l.length).length) := ⟨_, rfl⟩; have hFl : F.length ≤ 40000 := (by rw [hF]; exact heads_le (by rw [List.length_take]; omega)); have hFr : ∀ i, i < F.length → (F.getD i []).length ≤ 12 := (fun i hi => by have h_ := heads_row hok.meth rfl _ (by rw [← hF]; exact mem_getDD [] hi); omega)
  have q17 : At (Ty.lst Ty.ints HD) s3 a3 (.tmp 8) := cvt (T := (Ty.lst Ty.ints (if touchMay nm n l cs leads = 0 then (tHds n.toNat l cs leads leads.length) else []))) (U := (Ty.lst Ty.ints HD)) (by rw [if_pos h0, hHD]) q12
  refine wp_skip ?_; refine tn ?_; refine wp_seq ?_; refine wp_seq ?_
  refine rg a3 s3 [(Ty.lst Ty.int leads), (Ty.nat (List.length leads)), (Ty.int (0 : Int))] ok3 ⟨?_, ?_, ?_, trivial⟩ ?_
  · intro A B E G H; exact rP (y_move (kp (H 2 rfl) E q10))
  · intro A B E G H d0; exact rP (y_len Try.underlying23 (ed d0 rfl rfl rfl))
  · intro A B E G H; exact rP (y_move rfl)
  intro a5 s5 D5; have ok5 := D5.ok; have F5 := F3.step0 D5.stp; have q18 := D5.kt q9 rfl; have q19 := D5.kt q11 rfl; have q20 := D5.kt q17 rfl; have q21 := D5.dn 0 rfl rfl; have q22 := D5.dn 1 rfl rfl; have q23 := D5.dn 2 rfl rfl; clear D5; refine tn ?_; refine wp_block ?_
  refine loop (fun n1 a6 w1 => ∃ (t1 : GW) (k : Nat), t1.w = w1 ∧ FromL [] s0 t1 ∧ Ok 98 a6 ∧ At (Ty.nat k) t1 a6 (.tmp 36) ∧ At (Ty.lstc 2 callC cs) t1 a6 (.tmp 1) ∧ At (Ty.ref [(Ty.val (Value.string nm)), (Ty.int n), (Ty.lst Ty.ints l)]) t1 a6 (.tmp 3) ∧ At (Ty.lst Ty.ints HD) t1 a6 (.tmp 8) ∧ At (Ty.lst Ty.int leads) t1 a6 (.tmp 34) ∧ At (Ty.nat (List.length leads)) t1 a6 (.tmp 35) ∧ (k ≤ leads.length) ∧ (∀ j, j < k → (cs.getD (leads.getD j 0).toNat D0).2.length < 2) ∧ n1 = leads.length - k) (leads.length - (0)) ?_ ?_
  ·
   exact ⟨s5, 0, rfl, F5, ok5, (cvi (by (first | rfl | omega | (simp_all; done) | (simp_all; omega))) q23), q18, q19, q20, q21, q22, by omega, fun j hj => absurd hj (Nat.not_lt_zero j), rfl⟩
  ·
   rintro n2 a7 w2 ⟨t2, k, rfl, F6, ok6, q24, q25, q26, q27, q28, q29, hk, ho, rfl⟩
   refine wp_seq ?_
   refine reg (a := a7) (σ := t2) rfl (fun i_ => List.getD [(Ty.pr (Ty.bool (decide (((k : Nat) : Int) < (((List.length leads) : Nat) : Int)))))] i_ Pr.any) ok6 rfl ⟨?_, trivial⟩ ?_
   · intro A B E G H; exact rP (y_lss (kp (H 36 rfl) E q24) (kp (H 35 rfl) E q29))
   intro a8 s6 D6; have ok7 := D6.ok; have F7 := F6.step0 D6.stp; have q30 := D6.kt q24 rfl; have q31 := D6.kt q25 rfl; have q32 := D6.kt q26 rfl; have q33 := D6.kt q27 rfl; have q34 := D6.kt q28 rfl; have q35 := D6.kt q29 rfl; have q36 := D6.dn 0 rfl rfl; clear D6; refine tn ?_; refine wp_seq ?_
   refine cond_p (p := (((k : Nat) : Int) < (((List.length leads) : Nat) : Int))) q36 (fun c2 => ?_) (fun c2 => ?_)
   ·
    obtain ⟨hk0, hkc⟩ := hin k (by omega)
    refine wp_skip ?_; refine tn ?_; refine wp_seq ?_; refine wp_block ?_; refine wp_seq ?_
    refine rg a8 s6 [(Ty.ref [(Ty.int (leads.getD k 0))]), (Ty.int (leads.getD k 0)), (Ty.int (leads.getD k 0))] ok7 ⟨?_, ?_, ?_, trivial⟩ ?_
    · intro A B E G H; exact rP (y_index1 Try.underlying23 Try.inf3 (kp (H 34 rfl) E q34) (kp (H 36 rfl) E q30) (by omega) (lst_get Ty.int leads 0 k (by omega)))
    · intro A B E G H d0; exact rP (y_load Try.underlying3 rfl (ed d0 rfl rfl rfl) rfl)
    · intro A B E G H d0 d1 d2; exact rP (y_assign (ed d0 rfl rfl rfl))
    intro a9 s7 D7; have ok8 := D7.ok; have F8 := F7.step0 D7.stp; have q37 := D7.kt q30 rfl; have q38 := D7.kt q31 rfl; have q39 := D7.kt q32 rfl; have q40 := D7.kt q33 rfl; have q41 := D7.kt q34 rfl; have q42 := D7.kt q35 rfl; have q43 := D7.dn 2 rfl rfl; clear D7; refine tn ?_; refine wp_seq ?_
    refine rg a9 s7 [(Ty.lstc 2 callC cs), (Ty.int (leads.getD k 0)), (Ty.ref [(Ty.val (Value.int .i32 ((cs.getD ((leads.getD k 0)).toNat D0)).1)), (Ty.lst Ty.ints ((cs.getD ((leads.getD k 0)).toNat D0)).2)]), (Ty.ref [(Ty.lst Ty.ints ((cs.getD ((leads.getD k 0)).toNat D0)).2)]), (Ty.lst Ty.ints ((cs.getD ((leads.getD k 0)).toNat D0)).2), (Ty.nat (List.length ((cs.getD ((leads.getD k 0)).toNat D0)).2)), (Ty.bool (decide ((1 : Int) < (((List.length ((cs.getD ((leads.getD k 0)).toNat D0)).2) : Nat) : Int))))] ok8 ⟨?_, ?_, ?_, ?_, ?_, ?_, ?_, trivial⟩ ?_
    · intro A B E G H; exact rP (y_move (kp (H 1 rfl) E q38))
    · intro A B E G H; exact rP (y_move (kp (H 11 rfl) E q43))
    · intro A B E G H d0 d1; exact rP (y_indexc (i := (leads.getD k 0)) D0 Try.underlying22 Try.inf56 (ed d0 rfl rfl rfl) (ed d1 rfl rfl rfl) (by omega) (by omega) (by decide) (fun _ => rfl))
    · intro A B E G H d0; exact rP (y_field Try.fld56_1 Try.inf29 (by decide) (ed d0 rfl rfl rfl) rfl)
    · intro A B E G H d0; exact rP (y_load Try.underlying29 rfl (ed d0 rfl rfl rfl) rfl)
    · intro A B E G H d0; exact rP (y_len Try.underlying29 (ed d0 rfl rfl rfl))
    · intro A B E G H d0; exact rP (y_gtr (ed d0 rfl rfl rfl) rfl)
    intro a10 s8 D8; have ok9 := D8.ok; have F9 := F8.step0 D8.stp; have q44 := D8.kt q37 rfl; have q45 := D8.kt q38 rfl; have q46 := D8.kt q39 rfl; have q47 := D8.kt q40 rfl; have q48 := D8.kt q41 rfl; have q49 := D8.kt q42 rfl; have q50 := D8.dn 6 rfl rfl; clear D8; refine tn ?_
    refine cond_p (p := ((1 : Int) < (((List.length ((cs.getD ((leads.getD k 0)).toNat D0)).2) : Nat) : Int))) q50 (fun c3 => ?_) (fun c3 => ?_)
    ·
     have hno : oneB cs leads = false := one_no (show k < leads.length by omega) (by omega)
     refine wp_seq ?_
     refine rg a10 s8 [(Ty.bool false), (Ty.int (11 : Int))] ok9 ⟨?_, ?_, trivial⟩ ?_
     · intro A B E G H; exact rP (y_assign rfl)
     · intro A B E G H d0 d1; exact rP (y_assign rfl)
     intro a11 s9 D9; have ok10 := D9.ok; have F10 := F9.step0 D9.stp; have q51 := D9.dn 0 rfl rfl; have q52 := D9.dn 1 rfl rfl; clear D9; refine tn ?_; refine wp_ret ?_; refine br ?_; refine tr ?_; refine tr ?_; refine br ?_; refine tr ?_
     exact retL2 rfl ok10 F10 (hasT2 (cvb (by (rw [if_pos h0, hno, Bool.false_and])) q51) (cvi (by (rw [if_pos h0, if_neg (by rw [hno]; decide)])) q52))
    ·
     refine wp_skip ?_; refine bn ?_; refine tn ?_
     refine rg a10 s8 [(Ty.nat (k + 1)), (Ty.nat (k + 1))] ok9 ⟨?_, ?_, trivial⟩ ?_
     · intro A B E G H; exact rP ((y_add (kp (H 36 rfl) E q44) rfl (w64 (by omega) (by omega))).mono (fun τ _ h => cvi (σ := τ) (by first | omega | exact (Int.natCast_mul _ _).symm) h))
     · intro A B E G H d0; exact rP (y_move (ed d0 rfl rfl rfl))
     intro a12 s10 D10; have ok11 := D10.ok; have F11 := F9.step0 D10.stp; have q53 := D10.kt q45 rfl; have q54 := D10.kt q46 rfl; have q55 := D10.kt q47 rfl; have q56 := D10.kt q48 rfl; have q57 := D10.kt q49 rfl; have q58 := D10.dn 1 rfl rfl; clear D10
     exact tn ⟨leads.length - ((k+1)), by omega, s10, (k+1), rfl, F11, ok11, (cvi (by (first | rfl | omega | (simp_all; done) | (simp_all; omega))) q58), q53, q54, q55, q56, q57, by omega, fun j hj => by (by_cases e : j = k; subst e; omega; exact ho j (by omega)), rfl⟩
   ·
    have hone : oneB cs leads = true := one_yes (fun j hj => ho j (by omega))
    refine wp_exit ?_; refine tx ?_; refine tx ?_; refine bx ?_; refine tn ?_; refine wp_seq ?_
    refine rg a8 s6 [(Ty.agg [(Ty.val (Value.string nm)), (Ty.int n), (Ty.lst Ty.ints l)]), (Ty.tup3 (Ty.lst Ty.ints F) (Ty.bool SF) (Ty.int (0 : Int))), (Ty.tup3 (Ty.lst Ty.ints F) (Ty.bool SF) (Ty.int (0 : Int))), (Ty.lst Ty.ints F), (Ty.bool SF), (Ty.int (0 : Int)), (Ty.lst Ty.ints F), (Ty.bool SF), (Ty.int (0 : Int))] ok7 ⟨?_, ?_, ?_, ?_, ?_, ?_, ?_, ?_, ?_, trivial⟩ ?_
    · intro A B E G H; exact rP (y_loadagg Try.underlying31 Try.inf31 (kp (H 3 rfl) E q32))
    · intro A B E G H d0; exact rP ((y_call #[A.eval (.tmp 49)] Try.func25 rfl rfl (by simp only [List.map_toArray, List.map_cons, List.map_nil]) (false_fn (nm) (n) (l) _ _ (ed d0 rfl rfl rfl) (by first | omega | assumption) (by first | omega | assumption))).mono (fun τ _ h => cvt (σ := τ) (T := (Ty.tup3 (Ty.lst Ty.ints (if methMay nm n l = 0 then (onceL (enTo ((fromL (roundsL n.toNat) l).take l.length) ((fromL (roundsL n.toNat) l).take l.length).length ((fromL (roundsL n.toNat) l).take l.length).length)) else [])) (Ty.bool (if methMay nm n l = 0 then (sfTo ((fromL (roundsL n.toNat) l).take l.length) ((fromL (roundsL n.toNat) l).take l.length).length ((fromL (roundsL n.toNat) l).take l.length).length) else false)) (Ty.int (methMay nm n l)))) (U := (Ty.tup3 (Ty.lst Ty.ints F) (Ty.bool SF) (Ty.int (0 : Int)))) (by rw [if_pos hm0, if_pos hm0, hm0, hF, hSF]) h))
    · intro A B E G H d0; exact rP (y_move (ed d0 rfl rfl rfl))
    · intro A B E G H d0; exact rP (y_ext3_0 (ed d0 rfl rfl rfl))
    · intro A B E G H d0 d1; exact rP (y_ext3_1 (ed d0 rfl rfl rfl))
    · intro A B E G H d0 d1; exact rP (y_ext3_2 (ed d0 rfl rfl rfl))
    · intro A B E G H d0 d1 d2 d3 d4 d5 d6 d7; exact rP (y_assign (ed d0 rfl rfl rfl))
    · intro A B E G H d0 d1 d2 d3 d4 d5 d6 d7 d8; exact rP (y_assign (ed d0 rfl rfl rfl))
    · intro A B E G H d0 d1 d2 d3 d4 d5 d6 d7 d8 d9; exact rP (y_assign (ed d0 rfl rfl rfl))
    intro a13 s11 D11; have ok12 := D11.ok; have F12 := F7.step0 D11.stp; have q59 := D11.kt q33 rfl; have q60 := D11.dn 6 rfl rfl; have q61 := D11.dn 7 rfl rfl; clear D11; refine tn ?_; refine wp_seq ?_
    refine reg2 (a := a13) (σ := s11) rfl 1 (fun i_ => List.getD [(Pr.ownm Ty.int kI 6 (fun _ => none : Int → Option Int))] i_ Pr.any) ok12 rfl (by decide) rfl ⟨?_, trivial⟩ ?_
    · intro A B E G H; exact rP (y_makemap 6)
    intro a14 s12 D12; have ok13 := D12.ok; have F13 := F12.step0 D12.stp; have q62 := D12.kt q59 rfl; have q63 := D12.kt q60 rfl; have q64 := D12.kt q61 rfl
    obtain ⟨x1, hx1⟩ : ∃ x, a14.eval (.tmp 54) = x := ⟨_, rfl⟩
    have q65 : At (Ty.val x1) s12 a14 (.tmp 54) := hx1
    have o1 : OwnM Ty.int kI s12 6 x1 (fun _ => none : Int → Option Int) := al2 (R := (Pr.ownm Ty.int kI 6 (fun _ => none : Int → Option Int))) hx1 (D12.done 0 (by decide))
    clear D12
    refine tailL0 (L := [6]) (R := (fun _ τ => OwnM Ty.int kI τ 6 x1 (fun x_ => if x_ = (0 : Int) then some (1 : Int) else (fun _ => none : Int → Option Int) x_))) rfl rfl (YldM.toL (m_mapins (i := (0 : Int)) Try.underlying86 (keyInt Try.underlying3) (by decide) o1 q65 rfl rfl)) (fun v1 s13 hs1 r1 => ?_)
    have F14 := F13.stepL hs1 (by decide); have q66 := kpL hs1 (by decide) rfl q62; have q67 := kpL hs1 (by decide) rfl q63; have q68 := kpL hs1 (by decide) rfl q64; have q69 := kpL hs1 (by decide) rfl q65
    have o2 : OwnM Ty.int kI s13 6 x1 (fun x_ => if x_ = (0 : Int) then some (1 : Int) else (fun _ => none : Int → Option Int) x_) := r1
    clear r1
    refine tailL (L := []) (R := (fun v τ => Pr.has (Ty.pr (Ty.val x1)) τ v)) rfl rfl (by decide) ok13 (Yld.toL (y_move q69)) (fun a15 s14 hs2 ok14 r2 sm1 => ?_)
    have F15 := F14.stepL hs2 (by decide); have q71 := kpL hs2 (by decide) (sm1 8 (by decide)) q66; have q72 := kpL hs2 (by decide) (sm1 12 (by decide)) q67; have q73 := kpL hs2 (by decide) (sm1 13 (by decide)) q68; have o3 := OwnM.keepL o2 hs2 (by decide) (by decide)
    have q74 : At (Ty.val x1) s14 a15 (.tmp 55) := r2
    clear r2
    refine tailL (L := []) (R := (fun v τ => Pr.has (Ty.pr (Ty.val x1)) τ v)) rfl rfl (by decide) ok14 (Yld.toL (y_assign q74)) (fun a16 s15 hs3 ok15 r3 sm2 => ?_)
    have F16 := F15.stepL hs3 (by decide); have q75 := kpL hs3 (by decide) (sm2 8 (by decide)) q71; have q76 := kpL hs3 (by decide) (sm2 12 (by decide)) q72; have q77 := kpL hs3 (by decide) (sm2 13 (by decide)) q73; have o4 := OwnM.keepL o3 hs3 (by decide) (by decide)
    have q78 : At (Ty.val x1) s15 a16 (.tmp 15) := r3
    clear r3; refine wpList_nil ?_
    have o5 : OwnM Ty.int kI s15 6 x1 (seenS (addS [0] (List.take 0 F))) := (cvm (by (exact bad_zero)) o4)
    refine tn ?_; refine wp_seq ?_; refine wp_seq ?_
    refine rg a16 s15 [(Ty.lst Ty.ints F), (Ty.nat (List.length F)), (Ty.int (0 : Int))] ok15 ⟨?_, ?_, ?_, trivial⟩ ?_
    · intro A B E G H; exact rP (y_move (kp (H 12 rfl) E q76))
    · intro A B E G H d0; exact rP (y_len Try.underlying29 (ed d0 rfl rfl rfl))
    · intro A B E G H; exact rP (y_move rfl)
    intro a17 s16 D13; have ok16 := D13.ok; have F17 := F16.step0 D13.stp; have q79 := D13.kt q75 rfl; have q80 := D13.kt q77 rfl; have q81 := D13.kt q78 rfl; have o6 := OwnM.k0 o5 D13.stp; have q82 := D13.dn 0 rfl rfl; have q83 := D13.dn 1 rfl rfl; have q84 := D13.dn 2 rfl rfl; clear D13; refine tn ?_; refine wp_block ?_
    refine loop (fun n3 a18 w3 => ∃ (t3 : GW) (k : Nat) (x15_1 : Value), t3.w = w3 ∧ FromL [] s0 t3 ∧ Ok 98 a18 ∧ At (Ty.nat k) t3 a18 (.tmp 58) ∧ At (Ty.val x15_1) t3 a18 (.tmp 15) ∧ At (Ty.lst Ty.ints HD) t3 a18 (.tmp 8) ∧ At (Ty.bool SF) t3 a18 (.tmp 13) ∧ At (Ty.lst Ty.ints F) t3 a18 (.tmp 56) ∧ At (Ty.nat (List.length F)) t3 a18 (.tmp 57) ∧ OwnM Ty.int kI t3 6 x15_1 (seenS (addS [0] (F.take k))) ∧ (k ≤ F.length) ∧ n3 = F.length - k) (F.length - (0)) ?_ ?_
    ·
     exact ⟨s16, 0, x1, rfl, F17, ok16, (cvi (by (first | rfl | omega | (simp_all; done) | (simp_all; omega))) q84), q81, q79, q80, q82, q83, (cvm (by (rfl)) o6), by omega, rfl⟩
    ·
     rintro n4 a19 w4 ⟨t4, k, x15_1, rfl, F18, ok17, q85, q86, q87, q88, q89, q90, o7, hk, rfl⟩
     refine wp_seq ?_
     refine reg (a := a19) (σ := t4) rfl (fun i_ => List.getD [(Ty.pr (Ty.bool (decide (((k : Nat) : Int) < (((List.length F) : Nat) : Int)))))] i_ Pr.any) ok17 rfl ⟨?_, trivial⟩ ?_
     · intro A B E G H; exact rP (y_lss (kp (H 58 rfl) E q85) (kp (H 57 rfl) E q90))
     intro a20 s17 D14; have ok18 := D14.ok; have F19 := F18.step0 D14.stp; have q91 := D14.kt q85 rfl; have q92 := D14.kt q86 rfl; have q93 := D14.kt q87 rfl; have q94 := D14.kt q88 rfl; have q95 := D14.kt q89 rfl; have q96 := D14.kt q90 rfl; have o8 := OwnM.k0 o7 D14.stp; have q97 := D14.dn 0 rfl rfl; clear D14; refine tn ?_; refine wp_seq ?_
     refine cond_p (p := (((k : Nat) : Int) < (((List.length F) : Nat) : Int))) q97 (fun c4 => ?_) (fun c4 => ?_)
     ·
      have hfr := hFr k (by omega)
      refine wp_skip ?_; refine tn ?_; refine wp_seq ?_; refine wp_block ?_; refine wp_seq ?_
      refine rg a20 s17 [(Ty.ref [(Ty.lst Ty.int (F.getD k []))]), (Ty.lst Ty.int (F.getD k [])), (Ty.lst Ty.int (F.getD k []))] ok18 ⟨?_, ?_, ?_, trivial⟩ ?_
      · intro A B E G H; exact rP (y_index1 Try.underlying29 Try.inf23 (kp (H 56 rfl) E q95) (kp (H 58 rfl) E q91) (by omega) (lst_get Ty.ints F [] k (by omega)))
      · intro A B E G H d0; exact rP (y_load Try.underlying23 rfl (ed d0 rfl rfl rfl) rfl)
      · intro A B E G H d0 d1 d2; exact rP (y_assign (ed d0 rfl rfl rfl))
      intro a21 s18 D15; have ok19 := D15.ok; have F20 := F19.step0 D15.stp; have q98 := D15.kt q91 rfl; have q99 := D15.kt q92 rfl; have q100 := D15.kt q93 rfl; have q101 := D15.kt q94 rfl; have q102 := D15.kt q95 rfl; have q103 := D15.kt q96 rfl; have o9 := OwnM.k0 o8 D15.stp; have q104 := D15.dn 2 rfl rfl; clear D15; refine tn ?_
      refine reg2 (a := a21) (σ := s18) rfl 3 (fun i_ => List.getD [(Ty.pr (Ty.val x15_1)), (Ty.pr (Ty.lst Ty.int (F.getD k []))), (Ty.pr (Ty.nat (rankL ((F.getD k [])))))] i_ Pr.any) ok19 rfl (by decide) rfl ⟨?_, ?_, ?_, trivial⟩ ?_
      · intro A B E G H; exact rP (y_move (kp (H 15 rfl) E q99))
      · intro A B E G H; exact rP (y_move (kp (H 17 rfl) E q104))
      · intro A B E G H d0; exact rP (y_call #[A.eval (.tmp 63)] Try.func55 rfl rfl (by simp only [List.map_toArray, List.map_cons, List.map_nil]) (rowPlace_fn ((F.getD k [])) _ _ (ed d0 rfl rfl rfl) (by omega)))
      intro a22 s19 D16; have ok20 := D16.ok; have F21 := F20.step0 D16.stp; have q105 := D16.kt q98 rfl; have q106 := D16.kt q99 rfl; have q107 := D16.kt q100 rfl; have q108 := D16.kt q101 rfl; have q109 := D16.kt q102 rfl; have q110 := D16.kt q103 rfl; have o10 := OwnM.k0 o9 D16.stp
      have q111 : At (Ty.val x15_1) s19 a22 (.tmp 62) := D16.done 0 (by decide)
      have q112 := D16.dn 2 (by decide) rfl rfl; clear D16
      refine tailL0 (L := [6]) (R := (fun _ τ => OwnM Ty.int kI τ 6 x15_1 (fun x_ => if x_ = (((rankL ((F.getD k []))) : Nat) : Int) then some (1 : Int) else (seenS (addS [0] (F.take k))) x_))) rfl rfl (YldM.toL (m_mapset (i := (((rankL ((F.getD k []))) : Nat) : Int)) Try.underlying86 (keyInt Try.underlying3) (by decide) o10 q111 q112 rfl)) (fun v2 s20 hs4 r4 => ?_)
      have F22 := F21.stepL hs4 (by decide); have q113 := kpL hs4 (by decide) rfl q105; have q114 := kpL hs4 (by decide) rfl q106; have q115 := kpL hs4 (by decide) rfl q107; have q116 := kpL hs4 (by decide) rfl q108; have q117 := kpL hs4 (by decide) rfl q109; have q118 := kpL hs4 (by decide) rfl q110
      have o11 : OwnM Ty.int kI s20 6 x15_1 (fun x_ => if x_ = (((rankL ((F.getD k []))) : Nat) : Int) then some (1 : Int) else (seenS (addS [0] (F.take k))) x_) := r4
      clear r4; refine wpList_nil ?_; refine bn ?_; refine tn ?_
      refine rg a22 s20 [(Ty.nat (k + 1)), (Ty.nat (k + 1))] ok20 ⟨?_, ?_, trivial⟩ ?_
      · intro A B E G H; exact rP ((y_add (kp (H 58 rfl) E q113) rfl (w64 (by omega) (by omega))).mono (fun τ _ h => cvi (σ := τ) (by first | omega | exact (Int.natCast_mul _ _).symm) h))
      · intro A B E G H d0; exact rP (y_move (ed d0 rfl rfl rfl))
      intro a23 s21 D17; have ok21 := D17.ok; have F23 := F22.step0 D17.stp; have q120 := D17.kt q114 rfl; have q121 := D17.kt q115 rfl; have q122 := D17.kt q116 rfl; have q123 := D17.kt q117 rfl; have q124 := D17.kt q118 rfl; have o12 := OwnM.k0 o11 D17.stp; have q125 := D17.dn 1 rfl rfl; clear D17
      exact tn ⟨F.length - ((k+1)), by omega, s21, (k+1), x15_1, rfl, F23, ok21, (cvi (by (first | rfl | omega | (simp_all; done) | (simp_all; omega))) q125), q120, q121, q122, q123, q124, (cvm (by (rw [seenS_cons, ← addS_snoc, ← take_snocD [] (by omega)])) o12), by omega, rfl⟩
     ·
      obtain ⟨S, hS⟩ : ∃ S, S = addS [0] F := ⟨_, rfl⟩
      refine wp_exit ?_; refine tx ?_; refine tx ?_; refine bx ?_; refine tn ?_; refine wp_seq ?_
      refine rg a20 s17 [(Ty.bool SF), (Ty.bool (!SF)), (Ty.bool (!SF))] ok18 ⟨?_, ?_, ?_, trivial⟩ ?_
      · intro A B E G H; exact rP (y_move (kp (H 13 rfl) E q94))
      · intro A B E G H d0; exact rP (y_not (ed d0 rfl rfl rfl))
      · intro A B E G H d0 d1 d2; exact rP (y_assign (ed d0 rfl rfl rfl))
      intro a24 s22 D18; have ok22 := D18.ok; have F24 := F19.step0 D18.stp; have q126 := D18.kt q92 rfl; have q127 := D18.kt q93 rfl; have o13 := OwnM.k0 o8 D18.stp; have q128 := D18.dn 2 rfl rfl; clear D18
      have o14 : OwnM Ty.int kI s22 6 x15_1 (seenS S) := (cvm (by (rw [show k = F.length by omega, List.take_length, hS])) o13)
      refine tn ?_; refine wp_seq ?_; refine wp_seq ?_
      refine rg a24 s22 [(Ty.lst Ty.ints HD), (Ty.nat (List.length HD)), (Ty.int (0 : Int))] ok22 ⟨?_, ?_, ?_, trivial⟩ ?_
      · intro A B E G H; exact rP (y_move (kp (H 8 rfl) E q127))
      · intro A B E G H d0; exact rP (y_len Try.underlying29 (ed d0 rfl rfl rfl))
      · intro A B E G H; exact rP (y_move rfl)
      intro a25 s23 D19; have ok23 := D19.ok; have F25 := F24.step0 D19.stp; have q129 := D19.kt q126 rfl; have q130 := D19.kt q127 rfl; have q131 := D19.kt q128 rfl; have o15 := OwnM.k0 o14 D19.stp; have q132 := D19.dn 0 rfl rfl; have q133 := D19.dn 1 rfl rfl; have q134 := D19.dn 2 rfl rfl; clear D19; refine tn ?_; refine wp_block ?_
      refine loop (fun n5 a26 w5 => ∃ (t5 : GW) (i : Nat), t5.w = w5 ∧ FromL [] s0 t5 ∧ Ok 98 a26 ∧ At (Ty.nat i) t5 a26 (.tmp 70) ∧ At (Ty.bool ((!SF) && bhTo S HD i)) t5 a26 (.tmp 18) ∧ At (Ty.val x15_1) t5 a26 (.tmp 15) ∧ At (Ty.lst Ty.ints HD) t5 a26 (.tmp 8) ∧ At (Ty.lst Ty.ints HD) t5 a26 (.tmp 68) ∧ At (Ty.nat (List.length HD)) t5 a26 (.tmp 69) ∧ OwnM Ty.int kI t5 6 x15_1 (seenS S) ∧ (i ≤ HD.length) ∧ n5 = HD.length - i) (HD.length - (0)) ?_ ?_
      ·
       exact ⟨s23, 0, rfl, F25, ok23, (cvi (by (first | rfl | omega | (simp_all; done) | (simp_all; omega))) q134), (cvb (by (simp [bhTo])) q131), q129, q130, q132, q133, o15, by omega, rfl⟩
      ·
       rintro n6 a27 w6 ⟨t6, i, rfl, F26, ok24, q135, q136, q137, q138, q139, q140, o16, hi, rfl⟩
       refine wp_seq ?_
       refine reg (a := a27) (σ := t6) rfl (fun i_ => List.getD [(Ty.pr (Ty.bool (decide (((i : Nat) : Int) < (((List.length HD) : Nat) : Int)))))] i_ Pr.any) ok24 rfl ⟨?_, trivial⟩ ?_
       · intro A B E G H; exact rP (y_lss (kp (H 70 rfl) E q135) (kp (H 69 rfl) E q140))
       intro a28 s24 D20; have ok25 := D20.ok; have F27 := F26.step0 D20.stp; have q141 := D20.kt q135 rfl; have q142 := D20.kt q136 rfl; have q143 := D20.kt q137 rfl; have q144 := D20.kt q138 rfl; have q145 := D20.kt q139 rfl; have q146 := D20.kt q140 rfl; have o17 := OwnM.k0 o16 D20.stp; have q147 := D20.dn 0 rfl rfl; clear D20; refine tn ?_; refine wp_seq ?_
       refine cond_p (p := (((i : Nat) : Int) < (((List.length HD) : Nat) : Int))) q147 (fun c5 => ?_) (fun c5 => ?_)
       ·
        obtain ⟨hri, hli⟩ := hHr i (by omega); obtain ⟨hu1, hu2⟩ := undo_row hri; have hul := undoL_len (HD.getD i []); have hln := hri.le; have htl : (List.take i HD).length = i := (by rw [List.length_take]; omega)
        refine wp_skip ?_; refine tn ?_; refine wp_seq ?_; refine wp_block ?_; refine wp_seq ?_
        refine rg a28 s24 [(Ty.nat i), (Ty.ref [(Ty.lst Ty.int (HD.getD i []))]), (Ty.lst Ty.int (HD.getD i [])), (Ty.nat i), (Ty.lst Ty.int (HD.getD i []))] ok25 ⟨?_, ?_, ?_, ?_, ?_, trivial⟩ ?_
        · intro A B E G H; exact rP (y_move (kp (H 70 rfl) E q141))
        · intro A B E G H; exact rP (y_index1 Try.underlying29 Try.inf23 (kp (H 68 rfl) E q145) (kp (H 70 rfl) E q141) (by omega) (lst_get Ty.ints HD [] i (by omega)))
        · intro A B E G H d0; exact rP (y_load Try.underlying23 rfl (ed d0 rfl rfl rfl) rfl)
        · intro A B E G H d0 d1 d2 d3; exact rP (y_assign (ed d0 rfl rfl rfl))
        · intro A B E G H d0 d1 d2 d3 d4 d5; exact rP (y_assign (ed d0 rfl rfl rfl))
        intro a29 s25 D21; have ok26 := D21.ok; have F28 := F27.step0 D21.stp; have q148 := D21.kt q141 rfl; have q149 := D21.kt q142 rfl; have q150 := D21.kt q143 rfl; have q151 := D21.kt q144 rfl; have q152 := D21.kt q145 rfl; have q153 := D21.kt q146 rfl; have o18 := OwnM.k0 o17 D21.stp; have q154 := D21.dn 3 rfl rfl; have q155 := D21.dn 4 rfl rfl; clear D21; refine tn ?_; refine wp_seq ?_
        refine rg a29 s25 [(Ty.lst Ty.int (HD.getD i [])), (Ty.lst Ty.int (undoL ((HD.getD i [])))), (Ty.lst Ty.int (undoL ((HD.getD i []))))] ok26 ⟨?_, ?_, ?_, trivial⟩ ?_
        · intro A B E G H; exact rP (y_move (kp (H 20 rfl) E q155))
        · intro A B E G H d0; exact rP (y_call #[A.eval (.tmp 75)] Try.func56 rfl rfl (by simp only [List.map_toArray, List.map_cons, List.map_nil]) (inverse_fn ((HD.getD i [])) _ _ (ed d0 rfl rfl rfl) (by assumption)))
        · intro A B E G H d0 d1 d2 d3; exact rP (y_assign (ed d0 rfl rfl rfl))
        intro a30 s26 D22; have ok27 := D22.ok; have F29 := F28.step0 D22.stp; have q156 := D22.kt q148 rfl; have q157 := D22.kt q149 rfl; have q158 := D22.kt q150 rfl; have q159 := D22.kt q151 rfl; have q160 := D22.kt q152 rfl; have q161 := D22.kt q153 rfl; have q162 := D22.kt q154 rfl; have o19 := OwnM.k0 o18 D22.stp; have q163 := D22.dn 2 rfl rfl; clear D22; refine tn ?_; refine wp_seq ?_
        refine rg a30 s26 [(Ty.lst Ty.ints HD), (Ty.nat i), (Ty.lst Ty.ints (HD.take i)), (Ty.nat (List.length (HD.take i))), (Ty.int (0 : Int))] ok27 ⟨?_, ?_, ?_, ?_, ?_, trivial⟩ ?_
        · intro A B E G H; exact rP (y_move (kp (H 8 rfl) E q159))
        · intro A B E G H; exact rP (y_move (kp (H 19 rfl) E q162))
        · intro A B E G H d0 d1; exact rP (y_take Try.underlying29 Try.inf23 (ed d0 rfl rfl rfl) (ed d1 rfl rfl rfl) (by omega))
        · intro A B E G H d0; exact rP (y_len Try.underlying29 (ed d0 rfl rfl rfl))
        · intro A B E G H; exact rP (y_move rfl)
        intro a31 s27 D23; have ok28 := D23.ok; have F30 := F29.step0 D23.stp; have q164 := D23.kt q156 rfl; have q165 := D23.kt q157 rfl; have q166 := D23.kt q158 rfl; have q167 := D23.kt q159 rfl; have q168 := D23.kt q160 rfl; have q169 := D23.kt q161 rfl; have q170 := D23.kt q163 rfl; have o20 := OwnM.k0 o19 D23.stp; have q171 := D23.dn 2 rfl rfl
        have b3 := sl_le q171
        have q172 := D23.dn 3 rfl rfl; have q173 := D23.dn 4 rfl rfl; clear D23; refine tn ?_; refine wp_block ?_
        refine loop (fun n7 a32 w7 => ∃ (t7 : GW) (j : Nat), t7.w = w7 ∧ FromL [] s0 t7 ∧ Ok 98 a32 ∧ At (Ty.nat j) t7 a32 (.tmp 81) ∧ At (Ty.bool (((!SF) && bhTo S HD i) && bhRow S HD i j)) t7 a32 (.tmp 18) ∧ At (Ty.nat i) t7 a32 (.tmp 70) ∧ At (Ty.val x15_1) t7 a32 (.tmp 15) ∧ At (Ty.lst Ty.ints HD) t7 a32 (.tmp 8) ∧ At (Ty.lst Ty.ints HD) t7 a32 (.tmp 68) ∧ At (Ty.nat (List.length HD)) t7 a32 (.tmp 69) ∧ At (Ty.lst Ty.int (undoL ((HD.getD i [])))) t7 a32 (.tmp 21) ∧ At (Ty.lst Ty.ints (HD.take i)) t7 a32 (.tmp 79) ∧ At (Ty.nat (List.length (HD.take i))) t7 a32 (.tmp 80) ∧ OwnM Ty.int kI t7 6 x15_1 (seenS S) ∧ (j ≤ (List.take i HD).length) ∧ n7 = (List.take i HD).length - j) ((List.take i HD).length - (0)) ?_ ?_
        ·
         exact ⟨s27, 0, rfl, F30, ok28, (cvi (by (first | rfl | omega | (simp_all; done) | (simp_all; omega))) q173), (cvb (by (rw [bhRow_zero, Bool.and_true])) q165), q164, q166, q167, q168, q169, q170, q171, q172, o20, by omega, rfl⟩
        ·
         rintro n8 a33 w8 ⟨t8, j, rfl, F31, ok29, q174, q175, q176, q177, q178, q179, q180, q181, q182, q183, o21, hj, rfl⟩
         refine wp_seq ?_
         refine reg (a := a33) (σ := t8) rfl (fun i_ => List.getD [(Ty.pr (Ty.bool (decide (((j : Nat) : Int) < (((List.length (HD.take i)) : Nat) : Int)))))] i_ Pr.any) ok29 rfl ⟨?_, trivial⟩ ?_
         · intro A B E G H; exact rP (y_lss (kp (H 81 rfl) E q174) (kp (H 80 rfl) E q183))
         intro a34 s28 D24; have ok30 := D24.ok; have F32 := F31.step0 D24.stp; have q184 := D24.kt q174 rfl; have q185 := D24.kt q175 rfl; have q186 := D24.kt q176 rfl; have q187 := D24.kt q177 rfl; have q188 := D24.kt q178 rfl; have q189 := D24.kt q179 rfl; have q190 := D24.kt q180 rfl; have q191 := D24.kt q181 rfl; have q192 := D24.kt q182 rfl; have q193 := D24.kt q183 rfl; have o22 := OwnM.k0 o21 D24.stp; have q194 := D24.dn 0 rfl rfl; clear D24; refine tn ?_; refine wp_seq ?_
         refine cond_p (p := (((j : Nat) : Int) < (((List.length (HD.take i)) : Nat) : Int))) q194 (fun c6 => ?_) (fun c6 => ?_)
         ·
          obtain ⟨hrj, hlj⟩ := hHr j (by omega); have hbd_ : ∀ q, q < (HD.getD j []).length → 0 ≤ (HD.getD j []).getD q 0 ∧ (HD.getD j []).getD q 0 < ((undoL (HD.getD i [])).length : Int) := (fun q hq => by have := hrj.bds q hq; omega); have hbl : (byL (undoL (HD.getD i [])) (HD.getD j [])).length ≤ 12 := (by rw [byL_len]; omega)
          refine wp_skip ?_; refine tn ?_; refine wp_seq ?_; refine wp_block ?_; refine wp_seq ?_
          refine rg a34 s28 [(Ty.ref [(Ty.lst Ty.int ((HD.take i).getD j []))]), (Ty.lst Ty.int ((HD.take i).getD j [])), (Ty.lst Ty.int ((HD.take i).getD j []))] ok30 ⟨?_, ?_, ?_, trivial⟩ ?_
          · intro A B E G H; exact rP (y_index1 Try.underlying29 Try.inf23 (kp (H 79 rfl) E q192) (kp (H 81 rfl) E q184) (by omega) (lst_get Ty.ints (HD.take i) [] j (by omega)))
          · intro A B E G H d0; exact rP (y_load Try.underlying23 rfl (ed d0 rfl rfl rfl) rfl)
          · intro A B E G H d0 d1 d2; exact rP (y_assign (ed d0 rfl rfl rfl))
          intro a35 s29 D25; have ok31 := D25.ok; have F33 := F32.step0 D25.stp; have q195 := D25.kt q184 rfl; have q196 := D25.kt q185 rfl; have q197 := D25.kt q186 rfl; have q198 := D25.kt q187 rfl; have q199 := D25.kt q188 rfl; have q200 := D25.kt q189 rfl; have q201 := D25.kt q190 rfl; have q202 := D25.kt q191 rfl; have q203 := D25.kt q192 rfl; have q204 := D25.kt q193 rfl; have o23 := OwnM.k0 o22 D25.stp; have q205 := D25.dn 2 rfl rfl; clear D25
          have q206 : At (Ty.lst Ty.int (HD.getD j [])) s29 a35 (.tmp 23) := (cvt (by (rw [getD_takeD [] (by omega)])) q205)
          refine tn ?_
          refine rg a35 s29 [(Ty.bool (((!SF) && bhTo S HD i) && bhRow S HD i j)), (Ty.bool (((!SF) && bhTo S HD i) && bhRow S HD i j)), (Ty.grd ((((!SF) && bhTo S HD i) && bhRow S HD i j) = true) (Ty.val x15_1)), (Ty.grd ((((!SF) && bhTo S HD i) && bhRow S HD i j) = true) (Ty.lst Ty.int (undoL ((HD.getD i []))))), (Ty.grd ((((!SF) && bhTo S HD i) && bhRow S HD i j) = true) (Ty.lst Ty.int (HD.getD j []))), (Ty.grd ((((!SF) && bhTo S HD i) && bhRow S HD i j) = true) (Ty.lst Ty.int (byL ((undoL ((HD.getD i [])))) ((HD.getD j []))))), (Ty.grd ((((!SF) && bhTo S HD i) && bhRow S HD i j) = true) (Ty.nat (rankL ((byL ((undoL ((HD.getD i [])))) ((HD.getD j []))))))), (Ty.grd ((((!SF) && bhTo S HD i) && bhRow S HD i j) = true) (Ty.int (((seenS S) (((rankL ((byL ((undoL ((HD.getD i [])))) ((HD.getD j []))))) : Nat) : Int)).getD 0))), (Ty.grd ((((!SF) && bhTo S HD i) && bhRow S HD i j) = true) (Ty.bool (decide ((((seenS S) (((rankL ((byL ((undoL ((HD.getD i [])))) ((HD.getD j []))))) : Nat) : Int)).getD 0) = (0 : Int))))), (Ty.bool ((((!SF) && bhTo S HD i) && bhRow S HD i j) && (decide ((((seenS S) (((rankL ((byL ((undoL ((HD.getD i [])))) ((HD.getD j []))))) : Nat) : Int)).getD 0) = (0 : Int))))), (Ty.bool ((((!SF) && bhTo S HD i) && bhRow S HD i j) && (decide ((((seenS S) (((rankL ((byL ((undoL ((HD.getD i [])))) ((HD.getD j []))))) : Nat) : Int)).getD 0) = (0 : Int)))))] ok31 ⟨?_, ?_, ?_, ?_, ?_, ?_, ?_, ?_, ?_, ?_, ?_, trivial⟩ ?_
          · intro A B E G H; exact rP (y_move (kp (H 18 rfl) E q196))
          · intro A B E G H d0; exact rP (y_move (ed d0 rfl rfl rfl))
          · intro A B E G H d0
            refine run_guard G rfl rfl (by decide) (ed d0 rfl rfl rfl) (fun hg => ?_)
            exact y_move (kp (H 15 rfl) E q198)
          · intro A B E G H d0
            refine run_guard G rfl rfl (by decide) (ed d0 rfl rfl rfl) (fun hg => ?_)
            exact y_move (kp (H 21 rfl) E q202)
          · intro A B E G H d0
            refine run_guard G rfl rfl (by decide) (ed d0 rfl rfl rfl) (fun hg => ?_)
            exact y_move (kp (H 23 rfl) E q206)
          · intro A B E G H d0 d1 d2 d3
            refine run_guard G rfl rfl (by decide) (ed d2 rfl rfl rfl) (fun hg => ?_)
            exact y_call #[A.eval (.tmp 88), A.eval (.tmp 89)] Try.func57 rfl rfl (by simp only [List.map_toArray, List.map_cons, List.map_nil]) (product_fn ((undoL ((HD.getD i [])))) ((HD.getD j [])) _ _ _ ((ed d0 rfl rfl rfl).1 hg) ((ed d1 rfl rfl rfl).1 hg) (by first | assumption | omega) (by first | assumption | omega) (by first | assumption | omega))
          · intro A B E G H d0 d1 d2
            refine run_guard G rfl rfl (by decide) (ed d2 rfl rfl rfl) (fun hg => ?_)
            exact y_call #[A.eval (.tmp 90)] Try.func55 rfl rfl (by simp only [List.map_toArray, List.map_cons, List.map_nil]) (rowPlace_fn ((byL ((undoL ((HD.getD i [])))) ((HD.getD j [])))) _ _ ((ed d0 rfl rfl rfl).1 hg) (by omega))
          · intro A B E G H d0 d1 d2
            refine run_guard G rfl rfl (by decide) (ed d2 rfl rfl rfl) (fun hg => ?_)
            exact y_lookup (i := (((rankL ((byL ((undoL ((HD.getD i [])))) ((HD.getD j []))))) : Nat) : Int)) (z := 0) Try.underlying86 (keyInt Try.underlying3) Try.inf3 (fun _ => rfl) (OwnM.k0 o23 E) ((ed d0 rfl rfl rfl).1 hg) ((ed d1 rfl rfl rfl).1 hg)
          · intro A B E G H d0 d1
            refine run_guard G rfl rfl (by decide) (ed d1 rfl rfl rfl) (fun hg => ?_)
            exact y_eql ((ed d0 rfl rfl rfl).1 hg) rfl
          · intro A B E G H d0 d1; exact rP (y_pick_and (ed d0 rfl rfl rfl) (ed d1 rfl rfl rfl) rfl)
          · intro A B E G H d0 d1 d2 d3 d4 d5 d6 d7 d8 d9 d10 d11; exact rP (y_assign (ed d0 rfl rfl rfl))
          intro a36 s30 D26; have ok32 := D26.ok; have F34 := F33.step0 D26.stp; have q207 := D26.kt q195 rfl; have q208 := D26.kt q197 rfl; have q209 := D26.kt q198 rfl; have q210 := D26.kt q199 rfl; have q211 := D26.kt q200 rfl; have q212 := D26.kt q201 rfl; have q213 := D26.kt q202 rfl; have q214 := D26.kt q203 rfl; have q215 := D26.kt q204 rfl; have o24 := OwnM.k0 o23 D26.stp; have q216 := D26.dn 10 rfl rfl; clear D26; refine bn ?_; refine tn ?_
          refine rg a36 s30 [(Ty.nat (j + 1)), (Ty.nat (j + 1))] ok32 ⟨?_, ?_, trivial⟩ ?_
          · intro A B E G H; exact rP ((y_add (kp (H 81 rfl) E q207) rfl (w64 (by omega) (by omega))).mono (fun τ _ h => cvi (σ := τ) (by first | omega | exact (Int.natCast_mul _ _).symm) h))
          · intro A B E G H d0; exact rP (y_move (ed d0 rfl rfl rfl))
          intro a37 s31 D27; have ok33 := D27.ok; have F35 := F34.step0 D27.stp; have q217 := D27.kt q208 rfl; have q218 := D27.kt q209 rfl; have q219 := D27.kt q210 rfl; have q220 := D27.kt q211 rfl; have q221 := D27.kt q212 rfl; have q222 := D27.kt q213 rfl; have q223 := D27.kt q214 rfl; have q224 := D27.kt q215 rfl; have q225 := D27.kt q216 rfl; have o25 := OwnM.k0 o24 D27.stp; have q226 := D27.dn 1 rfl rfl; clear D27
          exact tn ⟨(List.take i HD).length - ((j+1)), by omega, s31, (j+1), rfl, F35, ok33, (cvi (by (first | rfl | omega | (simp_all; done) | (simp_all; omega))) q226), (cvb (by (rw [bhRow_succ, seen_dec, Bool.and_assoc])) q225), q217, q218, q219, q220, q221, q222, q223, q224, o25, by omega, rfl⟩
         ·
          have hje : j = i := (by omega)
          refine wp_exit ?_; refine tx ?_; refine tx ?_; refine bx ?_; refine bn ?_; refine tn ?_
          refine rg a34 s28 [(Ty.nat (i + 1)), (Ty.nat (i + 1))] ok30 ⟨?_, ?_, trivial⟩ ?_
          · intro A B E G H; exact rP ((y_add (kp (H 70 rfl) E q186) rfl (w64 (by omega) (by omega))).mono (fun τ _ h => cvi (σ := τ) (by first | omega | exact (Int.natCast_mul _ _).symm) h))
          · intro A B E G H d0; exact rP (y_move (ed d0 rfl rfl rfl))
          intro a38 s32 D28; have ok34 := D28.ok; have F36 := F32.step0 D28.stp; have q227 := D28.kt q185 rfl; have q228 := D28.kt q187 rfl; have q229 := D28.kt q188 rfl; have q230 := D28.kt q189 rfl; have q231 := D28.kt q190 rfl; have o26 := OwnM.k0 o22 D28.stp; have q232 := D28.dn 1 rfl rfl; clear D28
          exact tn ⟨HD.length - ((i+1)), by omega, s32, (i+1), rfl, F36, ok34, (cvi (by (first | rfl | omega | (simp_all; done) | (simp_all; omega))) q232), (cvb (by (rw [bhTo_succ, hje, Bool.and_assoc])) q227), q228, q229, q230, q231, o26, by omega, rfl⟩
       ·
        refine wp_exit ?_; refine tx ?_; refine tx ?_; refine bx ?_; refine tn ?_; refine wp_seq ?_
        refine rg a28 s24 [(Ty.bool ((!SF) && bhTo S HD i)), (Ty.bool ((!SF) && bhTo S HD i)), (Ty.int (0 : Int))] ok25 ⟨?_, ?_, ?_, trivial⟩ ?_
        · intro A B E G H; exact rP (y_move (kp (H 18 rfl) E q142))
        · intro A B E G H d0 d1; exact rP (y_assign (ed d0 rfl rfl rfl))
        · intro A B E G H d0 d1 d2; exact rP (y_assign rfl)
        intro a39 s33 D29; have ok35 := D29.ok; have F37 := F27.step0 D29.stp; have o27 := OwnM.k0 o17 D29.stp; have q233 := D29.dn 1 rfl rfl; have q234 := D29.dn 2 rfl rfl; clear D29; refine tn ?_; refine wp_ret ?_
        exact retL2 rfl ok35 F37 (hasT2 (cvb (by (rw [if_pos h0, hone, Bool.true_and, ← hSF, ← hF, ← hS, ← hHD, show i = leads.length by omega])) q233) (cvi (by (rw [if_pos h0, if_pos hone])) q234))


set_option maxRecDepth 100000 in
theorem rRounds_fn (n : Nat) (σ : GW) (v0 : Value) (hv0 : Ty.has (Ty.nat n) σ v0) (hn : n ≤ 1000000) :
    FnC Try.prog 64 #[v0] σ (Ty.lst Ty.int (roundsL n)) := by
 refine fn_intro Try.func64 rfl Try.ntmps64 (Nat.le_of_ble_eq_true rfl) (fun s0 a0 hle F0 ok0 hargs => ?_)
 have p0 : At (Ty.nat n) s0 a0 (.tmp 0) := by have e := hargs 0 _ rfl; show Ty.has _ _ _; rw [e]; exact Ty.up _ hle hv0
 clear hargs; refine wp_seq ?_
 refine rg a0 s0 [(Ty.val (Value.slice none 0 0))] ok0 ⟨?_, trivial⟩ ?_
 · intro A B E G H; exact rP (y_assign rfl)
 intro a1 s1 D1; have ok1 := D1.ok; have F1 := F0.step0 D1.stp; have q1 := D1.kt p0 rfl; clear D1; refine tn ?_; refine wp_seq ?_
 refine rg a1 s1 [(Ty.val (Value.slice none 0 0))] ok1 ⟨?_, trivial⟩ ?_
 · intro A B E G H; exact rP (y_assign rfl)
 intro a2 s2 D2; have ok2 := D2.ok; have F2 := F1.step0 D2.stp; have q2 := D2.kt q1 rfl; have q3 := D2.dn 0 rfl rfl; clear D2; refine tn ?_; refine wp_seq ?_; refine wp_seq ?_
 refine rg a2 s2 [(Ty.int (0 : Int))] ok2 ⟨?_, trivial⟩ ?_
 · intro A B E G H; exact rP (y_assign rfl)
 intro a3 s3 D3; have ok3 := D3.ok; have F3 := F2.step0 D3.stp; have q4 := D3.kt q2 rfl; have q5 := D3.kt q3 rfl; have q6 := D3.dn 0 rfl rfl; clear D3; refine tn ?_; refine wp_block ?_
 refine loop (fun n1 a4 w1 => ∃ (t1 : GW) (k : Nat), t1.w = w1 ∧ From s0 t1 ∧ Ok 15 a4 ∧ (Pr.own 2 3 1 (List.length (roundsL k)) (List.map Ty.int (roundsL k))).has t1 (a4.eval (.tmp 3)) ∧ At (Ty.nat k) t1 a4 (.tmp 4) ∧ At (Ty.nat n) t1 a4 (.tmp 0) ∧ (k ≤ n) ∧ n1 = n - k) (n - (0)) ?_ ?_
 ·
  exact ⟨s3, 0, rfl, F3, ok3, (by have e : a3.eval (.tmp 3) = _ := q5; rw [e]; exact Own.nil _ _ _ _), (cvi (by (first | rfl | omega | (simp_all; done) | (simp_all; omega))) q6), q4, by omega, rfl⟩
 ·
  rintro n2 a5 w2 ⟨t2, k, rfl, F4, ok4, q7, q8, q9, hk, rfl⟩
  have hp := roundsL_len k
  refine wp_seq ?_; refine wp_seq ?_
  refine reg (a := a5) (σ := t2) rfl (fun i_ => List.getD [(Ty.pr (Ty.nat k)), (Ty.pr (Ty.nat n)), (Ty.pr (Ty.bool (decide (((k : Nat) : Int) < ((n : Nat) : Int)))))] i_ Pr.any) ok4 rfl ⟨?_, ?_, ?_, trivial⟩ ?_
  · intro A B E G H; exact rP (y_move (kp (H 4 rfl) E q8))
  · intro A B E G H; exact rP (y_move (kp (H 0 rfl) E q9))
  · intro A B E G H d0 d1; exact rP (y_lss (ed d0 rfl rfl rfl) (ed d1 rfl rfl rfl))
  intro a6 s4 D4; have ok5 := D4.ok; have F5 := F4.step0 D4.stp
  have q10 : (Pr.own 2 3 1 (List.length (roundsL k)) (List.map Ty.int (roundsL k))).has s4 (a6.eval (.tmp 3)) := D4.ko q7 rfl
  have q11 := D4.kt q8 rfl; have q12 := D4.kt q9 rfl; have q13 := D4.dn 2 rfl rfl; clear D4; refine tn ?_
  refine cond_p (p := (((k : Nat) : Int) < ((n : Nat) : Int))) q13 (fun c1 => ?_) (fun c1 => ?_)
  ·
   refine wp_skip ?_; refine tn ?_; refine wp_seq ?_; refine wp_block ?_
   refine reg2 (a := a6) (σ := s4) rfl 3 (fun i_ => List.getD [(Ty.pr (Ty.val (a6.eval (.tmp 3)))), (Ty.pr (Ty.nat k)), (Ty.pr (Ty.sl 1 1 [(Ty.nat k)]))] i_ Pr.any) ok5 rfl (by decide) rfl ⟨?_, ?_, ?_, trivial⟩ ?_
   · intro A B E G H; exact rP (y_move (H 3 rfl))
   · intro A B E G H; exact rP (y_move (kp (H 4 rfl) E q11))
   · intro A B E G H d0; exact rP (y_build1o Try.underlying23 Try.inf3 rfl (one_val rfl) (ed d0 rfl rfl rfl))
   intro a7 s5 D5; have ok6 := D5.ok; have F6 := F5.step0 D5.stp; have q14 := (Pr.own 2 3 1 (List.length (roundsL k)) (List.map Ty.int (roundsL k))).up D5.stp q10
   have q15 : a7.eval (.tmp 3) = a6.eval (.tmp 3) := D5.same 3 rfl
   have q16 := D5.kt q11 rfl; have q17 := D5.kt q12 rfl; have q18 := D5.dn 0 (by decide) rfl rfl; have q19 := D5.dn 2 (by decide) rfl rfl; clear D5
   refine tail_step (m := 2) (R := (fun v τ => Own τ 2 3 1 v ((List.length (roundsL k)) + 1) ((List.map Ty.int (roundsL k)) ++ [(Ty.nat k)]))) rfl rfl (by decide) ok6 (m_append Try.underlying23 Try.inf3 (by decide) rfl (by decide) (al q18 q14) q19 (by intro U hU; simp at hU;  subst hU; exact one_val rfl) (by omega) (by omega)) (fun a8 s6 hs1 ok7 r1 sm1 => ?_)
   have F7 := F6.step hs1 (by decide)
   have q20 : At (Ty.nat k) s6 a8 (.tmp 4) := kpm hs1 (by decide) (sm1 4 (by decide)) q16
   have q21 : At (Ty.nat n) s6 a8 (.tmp 0) := kpm hs1 (by decide) (sm1 0 (by decide)) q17
   have q22 : At (Ty.sl 1 1 [(Ty.nat k)]) s6 a8 (.tmp 12) := kpm hs1 (by decide) (sm1 12 (by decide)) q19
   have q23 : (Pr.own 2 3 1 (List.length ((roundsL k) ++ [((k : Nat) : Int)])) (List.map Ty.int ((roundsL k) ++ [((k : Nat) : Int)]))).has s6 (a8.eval (.tmp 13)) := (cvo (by simp) (by first | (rw [List.map_append]; rfl) | simp) r1)
   refine tail_step (m := 0) (R := (fun v τ => Pr.has (Pr.own 2 3 1 (List.length ((roundsL k) ++ [((k : Nat) : Int)])) (List.map Ty.int ((roundsL k) ++ [((k : Nat) : Int)]))) τ v)) rfl rfl (by decide) ok7 (Yld.toM (y_assign q23)) (fun a9 s7 hs2 ok8 r2 sm2 => ?_)
   have F8 := F7.step hs2 (by decide)
   have q24 : At (Ty.nat k) s7 a9 (.tmp 4) := kpm hs2 (by decide) (sm2 4 (by decide)) q20
   have q25 : At (Ty.nat n) s7 a9 (.tmp 0) := kpm hs2 (by decide) (sm2 0 (by decide)) q21
   have q26 : At (Ty.sl 1 1 [(Ty.nat k)]) s7 a9 (.tmp 12) := kpm hs2 (by decide) (sm2 12 (by decide)) q22
   have q27 : (Pr.own 2 3 1 (List.length ((roundsL k) ++ [((k : Nat) : Int)])) (List.map Ty.int ((roundsL k) ++ [((k : Nat) : Int)]))).has s7 (a9.eval (.tmp 13)) := kpmo hs2 (by decide) (.inl rfl) (sm2 13 (by decide)) q23
   have q28 : (Pr.own 2 3 1 (List.length ((roundsL k) ++ [((k : Nat) : Int)])) (List.map Ty.int ((roundsL k) ++ [((k : Nat) : Int)]))).has s7 (a9.eval (.tmp 3)) := r2
   refine wpList_nil ?_; refine bn ?_; refine tn ?_
   refine rg a9 s7 [(Ty.nat k), (Ty.int (((k : Nat) : Int) + (1 : Int))), (Ty.int (((k : Nat) : Int) + (1 : Int)))] ok8 ⟨?_, ?_, ?_, trivial⟩ ?_
   · intro A B E G H; exact rP (y_move (kp (H 4 rfl) E q24))
   · intro A B E G H d0; exact rP (y_add (ed d0 rfl rfl rfl) rfl (w64 (by omega) (by omega)))
   · intro A B E G H d0 d1 d2; exact rP (y_assign (ed d0 rfl rfl rfl))
   intro a10 s8 D6; have ok9 := D6.ok; have F9 := F8.step0 D6.stp; have q29 := D6.kt q25 rfl
   have q30 : (Pr.own 2 3 1 (List.length ((roundsL k) ++ [((k : Nat) : Int)])) (List.map Ty.int ((roundsL k) ++ [((k : Nat) : Int)]))).has s8 (a10.eval (.tmp 3)) := D6.ko q28 rfl
   have q31 := D6.dn 2 rfl rfl; clear D6
   exact tn ⟨n - ((k+1)), by omega, s8, (k+1), rfl, F9, ok9, (cvo (by (rw [roundsL_succ k])) (by (rw [roundsL_succ k])) q30), (cvi (by (first | rfl | omega | (simp_all; done) | (simp_all; omega))) q31), q29, by omega, rfl⟩
  ·
   refine wp_exit ?_; refine tx ?_; refine tx ?_; refine bx ?_; refine tn ?_; refine wp_seq ?_
   refine rg a6 s4 [(Ty.val (a6.eval (.tmp 3))), (Ty.val (a6.eval (.tmp 3)))] ok5 ⟨?_, ?_, trivial⟩ ?_
   · intro A B E G H; exact rP (y_move (H 3 rfl))
   · intro A B E G H d0 d1; exact rP (y_assign (ed d0 rfl rfl rfl))
   intro a11 s9 D7; have ok10 := D7.ok; have F10 := F5.step0 D7.stp
   have q32 : (Pr.own 2 3 1 (List.length (roundsL k)) (List.map Ty.int (roundsL k))).has s9 (a11.eval (.tmp 2)) := al (show _ = _ from D7.done 1) ((Pr.own 2 3 1 (List.length (roundsL k)) (List.map Ty.int (roundsL k))).up D7.stp q10)
   clear D7; refine tn ?_; refine wp_ret ?_
   obtain ⟨t3, e1, h1, q33⟩ := Own.seal q32 (by decide)
   rw [← e1]
   have F11 := F10.step h1 (by decide)
   exact ret1 rfl ok10 F11 (cvt (by (obtain rfl : k = n := (by omega); rfl)) q33)


set_option maxRecDepth 100000 in
theorem rIsIn_fn (xs : List Int) (x : Int) (σ : GW) (v0 v1 : Value) (hv0 : Ty.has (Ty.lst Ty.int xs) σ v0) (hv1 : Ty.has (Ty.int x) σ v1)  :
    FnC Try.prog 114 #[v0, v1] σ (Ty.bool (decide (x ∈ xs))) := by
 refine fn_intro Try.func114 rfl Try.ntmps114 (Nat.le_of_ble_eq_true rfl) (fun s0 a0 hle F0 ok0 hargs => ?_)
 have p0 : At (Ty.lst Ty.int xs) s0 a0 (.tmp 0) := by have e := hargs 0 _ rfl; show Ty.has _ _ _; rw [e]; exact Ty.up _ hle hv0
 have b1 := sl_le p0
 have p1 : At (Ty.int x) s0 a0 (.tmp 1) := by have e := hargs 1 _ rfl; show Ty.has _ _ _; rw [e]; exact Ty.up _ hle hv1
 clear hargs; refine wp_seq ?_
 refine rg a0 s0 [(Ty.bool false)] ok0 ⟨?_, trivial⟩ ?_
 · intro A B E G H; exact rP (y_assign rfl)
 intro a1 s1 D1; have ok1 := D1.ok; have F1 := F0.step0 D1.stp; have q1 := D1.kt p0 rfl; have q2 := D1.kt p1 rfl; clear D1; refine tn ?_; refine wp_seq ?_; refine wp_seq ?_
 refine rg a1 s1 [(Ty.int (0 : Int))] ok1 ⟨?_, trivial⟩ ?_
 · intro A B E G H; exact rP (y_assign rfl)
 intro a2 s2 D2; have ok2 := D2.ok; have F2 := F1.step0 D2.stp; have q3 := D2.kt q1 rfl; have q4 := D2.kt q2 rfl; have q5 := D2.dn 0 rfl rfl; clear D2; refine tn ?_; refine wp_block ?_
 refine loop (fun n1 a3 w1 => ∃ (t1 : GW) (k : Nat), t1.w = w1 ∧ From s0 t1 ∧ Ok 18 a3 ∧ At (Ty.nat k) t1 a3 (.tmp 5) ∧ At (Ty.lst Ty.int xs) t1 a3 (.tmp 0) ∧ At (Ty.int x) t1 a3 (.tmp 1) ∧ (k ≤ xs.length) ∧ (∀ j, j < k → xs.getD j 0 ≠ x) ∧ n1 = xs.length - k) (xs.length - (0)) ?_ ?_
 ·
  exact ⟨s2, 0, rfl, F2, ok2, (cvi (by (first | rfl | omega | (simp_all; done) | (simp_all; omega))) q5), q3, q4, by omega, fun j hj => absurd hj (Nat.not_lt_zero j), rfl⟩
 ·
  rintro n2 a4 w2 ⟨t2, k, rfl, F3, ok3, q6, q7, q8, hk, hno, rfl⟩
  refine wp_seq ?_; refine wp_seq ?_
  refine reg (a := a4) (σ := t2) rfl (fun i_ => List.getD [(Ty.pr (Ty.nat k)), (Ty.pr (Ty.lst Ty.int xs)), (Ty.pr (Ty.nat (List.length xs))), (Ty.pr (Ty.bool (decide (((k : Nat) : Int) < (((List.length xs) : Nat) : Int)))))] i_ Pr.any) ok3 rfl ⟨?_, ?_, ?_, ?_, trivial⟩ ?_
  · intro A B E G H; exact rP (y_move (kp (H 5 rfl) E q6))
  · intro A B E G H; exact rP (y_move (kp (H 0 rfl) E q7))
  · intro A B E G H d0; exact rP (y_len Try.underlying23 (ed d0 rfl rfl rfl))
  · intro A B E G H d0 d1; exact rP (y_lss (ed d0 rfl rfl rfl) (ed d1 rfl rfl rfl))
  intro a5 s3 D3; have ok4 := D3.ok; have F4 := F3.step0 D3.stp; have q9 := D3.kt q6 rfl; have q10 := D3.kt q7 rfl; have q11 := D3.kt q8 rfl; have q12 := D3.dn 3 rfl rfl; clear D3; refine tn ?_
  refine cond_p (p := (((k : Nat) : Int) < (((List.length xs) : Nat) : Int))) q12 (fun c1 => ?_) (fun c1 => ?_)
  ·
   refine wp_skip ?_; refine tn ?_; refine wp_seq ?_; refine wp_block ?_; refine wp_seq ?_
   refine rg a5 s3 [(Ty.lst Ty.int xs), (Ty.nat k), (Ty.ref [(Ty.int (xs.getD k 0))]), (Ty.int (xs.getD k 0)), (Ty.int x), (Ty.bool (decide ((xs.getD k 0) = x)))] ok4 ⟨?_, ?_, ?_, ?_, ?_, ?_, trivial⟩ ?_
   · intro A B E G H; exact rP (y_move (kp (H 0 rfl) E q10))
   · intro A B E G H; exact rP (y_move (kp (H 5 rfl) E q9))
   · intro A B E G H d0 d1; exact rP (y_index1 Try.underlying23 Try.inf3 (ed d0 rfl rfl rfl) (ed d1 rfl rfl rfl) (by omega) (lst_get Ty.int xs 0 k (by omega)))
   · intro A B E G H d0; exact rP (y_load Try.underlying3 rfl (ed d0 rfl rfl rfl) rfl)
   · intro A B E G H; exact rP (y_move (kp (H 1 rfl) E q11))
   · intro A B E G H d0 d1; exact rP (y_eql (ed d0 rfl rfl rfl) (ed d1 rfl rfl rfl))
   intro a6 s4 D4; have ok5 := D4.ok; have F5 := F4.step0 D4.stp; have q13 := D4.kt q9 rfl; have q14 := D4.kt q10 rfl; have q15 := D4.kt q11 rfl; have q16 := D4.dn 5 rfl rfl; clear D4; refine tn ?_
   refine cond_p (p := ((xs.getD k 0) = x)) q16 (fun c2 => ?_) (fun c2 => ?_)
   ·
    refine wp_seq ?_
    refine rg a6 s4 [(Ty.bool true)] ok5 ⟨?_, trivial⟩ ?_
    · intro A B E G H; exact rP (y_assign rfl)
    intro a7 s5 D5; have ok6 := D5.ok; have F6 := F5.step0 D5.stp; have q17 := D5.dn 0 rfl rfl; clear D5; refine tn ?_; refine wp_ret ?_; refine br ?_; refine tr ?_; refine tr ?_; refine br ?_; refine tr ?_
    exact ret1 rfl ok6 F6 (cvb (by (exact (decide_eq_true (mem_at (by omega) c2)).symm)) q17)
   ·
    refine wp_skip ?_; refine bn ?_; refine tn ?_
    refine rg a6 s4 [(Ty.nat k), (Ty.int (((k : Nat) : Int) + (1 : Int))), (Ty.int (((k : Nat) : Int) + (1 : Int)))] ok5 ⟨?_, ?_, ?_, trivial⟩ ?_
    · intro A B E G H; exact rP (y_move (kp (H 5 rfl) E q13))
    · intro A B E G H d0; exact rP (y_add (ed d0 rfl rfl rfl) rfl (w64 (by omega) (by omega)))
    · intro A B E G H d0 d1 d2; exact rP (y_assign (ed d0 rfl rfl rfl))
    intro a8 s6 D6; have ok7 := D6.ok; have F7 := F5.step0 D6.stp; have q18 := D6.kt q14 rfl; have q19 := D6.kt q15 rfl; have q20 := D6.dn 2 rfl rfl; clear D6
    exact tn ⟨xs.length - ((k+1)), by omega, s6, (k+1), rfl, F7, ok7, (cvi (by (first | rfl | omega | (simp_all; done) | (simp_all; omega))) q20), q18, q19, by omega, fun j hj => by (by_cases e : j = k; subst e; exact c2; exact hno j (by omega)), rfl⟩
  ·
   refine wp_exit ?_; refine tx ?_; refine tx ?_; refine bx ?_; refine tn ?_; refine wp_seq ?_
   refine rg a5 s3 [(Ty.bool false)] ok4 ⟨?_, trivial⟩ ?_
   · intro A B E G H; exact rP (y_assign rfl)
   intro a9 s7 D7; have ok8 := D7.ok; have F8 := F4.step0 D7.stp; have q21 := D7.dn 0 rfl rfl; clear D7; refine tn ?_; refine wp_ret ?_
   exact ret1 rfl ok8 F8 (cvb (by (exact (decide_eq_false (not_mem_all (fun j hj => hno j (by omega)))).symm)) q21)


set_option maxRecDepth 100000 in
theorem rChangeRow_fn (n : Nat) (l : List Int) (σ : GW) (v0 v1 : Value) (hv0 : Ty.has (Ty.nat n) σ v0) (hv1 : Ty.has (Ty.lst Ty.int l) σ v1) (hn : n ≤ 100) :
    FnC Try.prog 92 #[v0, v1] σ (Ty.lst Ty.int (chgRow n l)) := by
 refine fn_intro Try.func92 rfl Try.ntmps92 (Nat.le_of_ble_eq_true rfl) (fun s0 a0 hle F0 ok0 hargs => ?_)
 have p0 : At (Ty.nat n) s0 a0 (.tmp 0) := by have e := hargs 0 _ rfl; show Ty.has _ _ _; rw [e]; exact Ty.up _ hle hv0
 have p1 : At (Ty.lst Ty.int l) s0 a0 (.tmp 1) := by have e := hargs 1 _ rfl; show Ty.has _ _ _; rw [e]; exact Ty.up _ hle hv1
 have b1 := sl_le p1
 clear hargs; refine wp_seq ?_
 refine rg a0 s0 [(Ty.val (Value.slice none 0 0))] ok0 ⟨?_, trivial⟩ ?_
 · intro A B E G H; exact rP (y_assign rfl)
 intro a1 s1 D1; have ok1 := D1.ok; have F1 := F0.step0 D1.stp; have q1 := D1.kt p0 rfl; have q2 := D1.kt p1 rfl; clear D1; refine tn ?_; refine wp_seq ?_
 refine rg a1 s1 [(Ty.val (Value.slice none 0 0))] ok1 ⟨?_, trivial⟩ ?_
 · intro A B E G H; exact rP (y_assign rfl)
 intro a2 s2 D2; have ok2 := D2.ok; have F2 := F1.step0 D2.stp; have q3 := D2.kt q1 rfl; have q4 := D2.kt q2 rfl; have q5 := D2.dn 0 rfl rfl; clear D2; refine tn ?_; refine wp_seq ?_; refine wp_block ?_
 refine loop (fun n1 a3 w1 => ∃ (t1 : GW) (xs : List Int) (f : Nat), t1.w = w1 ∧ From s0 t1 ∧ Ok 30 a3 ∧ (Pr.own 2 3 1 (List.length xs) (List.map Ty.int xs)).has t1 (a3.eval (.tmp 5)) ∧ At (Ty.nat n) t1 a3 (.tmp 0) ∧ At (Ty.lst Ty.int l) t1 a3 (.tmp 1) ∧ (n ≤ f + xs.length) ∧ (xs.length ≤ n + 1) ∧ (xs ++ rowF l n f xs.length = chgRow n l) ∧ n1 = n + 2 - xs.length) (n + 2 - (([] : List Int)).length) ?_ ?_
 ·
  exact ⟨s2, ([] : List Int), n, rfl, F2, ok2, (by have e : a2.eval (.tmp 5) = _ := q5; rw [e]; exact Own.nil _ _ _ _), q3, q4, by simp, by simp, rfl, rfl⟩
 ·
  rintro n2 a4 w2 ⟨t2, xs, f, rfl, F3, ok3, q6, q7, q8, hf, hx, heq, rfl⟩
  refine wp_seq ?_; refine wp_seq ?_
  refine reg (a := a4) (σ := t2) rfl (fun i_ => List.getD [(Ty.pr (Ty.val (a4.eval (.tmp 5)))), (Ty.pr (Ty.nat (List.length xs))), (Ty.pr (Ty.nat n)), (Ty.pr (Ty.bool (decide ((((List.length xs) : Nat) : Int) < ((n : Nat) : Int)))))] i_ Pr.any) ok3 rfl ⟨?_, ?_, ?_, ?_, trivial⟩ ?_
  · intro A B E G H; exact rP (y_move (H 5 rfl))
  · intro A B E G H d0; exact rP (own_len Try.underlying23 (al (ed d0 rfl rfl rfl) ((Pr.own 2 3 1 (List.length xs) (List.map Ty.int xs)).up E q6)))
  · intro A B E G H; exact rP (y_move (kp (H 0 rfl) E q7))
  · intro A B E G H d0 d1; exact rP (y_lss (ed d0 rfl rfl rfl) (ed d1 rfl rfl rfl))
  intro a5 s3 D3; have ok4 := D3.ok; have F4 := F3.step0 D3.stp
  have q9 : (Pr.own 2 3 1 (List.length xs) (List.map Ty.int xs)).has s3 (a5.eval (.tmp 5)) := D3.ko q6 rfl
  have q10 := D3.kt q7 rfl; have q11 := D3.kt q8 rfl; have q12 := D3.dn 3 rfl rfl; clear D3; refine tn ?_
  refine cond_p (p := ((((List.length xs) : Nat) : Int) < ((n : Nat) : Int))) q12 (fun c1 => ?_) (fun c1 => ?_)
  ·
   refine wp_skip ?_; refine tn ?_; refine wp_block ?_; refine wp_seq ?_
   refine rg a5 s3 [(Ty.val (a5.eval (.tmp 5))), (Ty.nat (List.length xs)), (Ty.nat (List.length xs))] ok4 ⟨?_, ?_, ?_, trivial⟩ ?_
   · intro A B E G H; exact rP (y_move (H 5 rfl))
   · intro A B E G H d0; exact rP (own_len Try.underlying23 (al (ed d0 rfl rfl rfl) ((Pr.own 2 3 1 (List.length xs) (List.map Ty.int xs)).up E q9)))
   · intro A B E G H d0 d1 d2; exact rP (y_assign (ed d0 rfl rfl rfl))
   intro a6 s4 D4; have ok5 := D4.ok; have F5 := F4.step0 D4.stp
   have q13 : (Pr.own 2 3 1 (List.length xs) (List.map Ty.int xs)).has s4 (a6.eval (.tmp 5)) := D4.ko q9 rfl
   have q14 := D4.kt q10 rfl; have q15 := D4.kt q11 rfl; have q16 := D4.dn 2 rfl rfl; clear D4; refine tn ?_; refine wp_seq ?_
   refine rg a6 s4 [(Ty.lst Ty.int l), (Ty.nat (List.length xs)), (Ty.int ((((List.length xs) : Nat) : Int) + (1 : Int))), (Ty.bool (decide ((((((List.length xs) : Nat) : Int) + (1 : Int))) ∈ (l)))), (Ty.bool (decide ((((((List.length xs) : Nat) : Int) + (1 : Int))) ∈ (l))))] ok5 ⟨?_, ?_, ?_, ?_, ?_, trivial⟩ ?_
   · intro A B E G H; exact rP (y_move (kp (H 1 rfl) E q15))
   · intro A B E G H; exact rP (y_move (kp (H 6 rfl) E q16))
   · intro A B E G H d0; exact rP (y_add (ed d0 rfl rfl rfl) rfl (w64 (by omega) (by omega)))
   · intro A B E G H d0 d1; exact rP (y_call #[A.eval (.tmp 14), A.eval (.tmp 16)] Try.func114 rfl rfl (by simp only [List.map_toArray, List.map_cons, List.map_nil]) (rIsIn_fn (l) (((((List.length xs) : Nat) : Int) + (1 : Int))) _ _ _ (ed d0 rfl rfl rfl) (ed d1 rfl rfl rfl) ))
   · intro A B E G H d0 d1 d2 d3 d4 d5; exact rP (y_assign (ed d0 rfl rfl rfl))
   intro a7 s5 D5; have ok6 := D5.ok; have F6 := F5.step0 D5.stp
   have q17 : (Pr.own 2 3 1 (List.length xs) (List.map Ty.int xs)).has s5 (a7.eval (.tmp 5)) := D5.ko q13 rfl
   have q18 := D5.kt q14 rfl; have q19 := D5.kt q15 rfl; have q20 := D5.kt q16 rfl; have q21 := D5.dn 4 rfl rfl; clear D5; refine tn ?_; refine wp_seq ?_
   refine rg a7 s5 [(Ty.bool (decide ((((((List.length xs) : Nat) : Int) + (1 : Int))) ∈ (l))))] ok6 ⟨?_, trivial⟩ ?_
   · intro A B E G H; exact rP (y_move (kp (H 7 rfl) E q21))
   intro a8 s6 D6; have ok7 := D6.ok; have F7 := F6.step0 D6.stp
   have q22 : (Pr.own 2 3 1 (List.length xs) (List.map Ty.int xs)).has s6 (a8.eval (.tmp 5)) := D6.ko q17 rfl
   have q23 := D6.kt q18 rfl; have q24 := D6.kt q19 rfl; have q25 := D6.kt q20 rfl; have q26 := D6.dn 0 rfl rfl; clear D6; refine tn ?_
   refine cond_t q26 (fun c2 => ?_) (fun c2 => ?_)
   ·
    have c2 := of_decide_eq_true c2
    refine reg2 (a := a8) (σ := s6) rfl 3 (fun i_ => List.getD [(Ty.pr (Ty.val (a8.eval (.tmp 5)))), (Ty.pr (Ty.nat (List.length xs))), (Ty.pr (Ty.sl 1 1 [(Ty.nat (List.length xs))]))] i_ Pr.any) ok7 rfl (by decide) rfl ⟨?_, ?_, ?_, trivial⟩ ?_
    · intro A B E G H; exact rP (y_move (H 5 rfl))
    · intro A B E G H; exact rP (y_move (kp (H 6 rfl) E q25))
    · intro A B E G H d0; exact rP (y_build1o Try.underlying23 Try.inf3 rfl (one_val rfl) (ed d0 rfl rfl rfl))
    intro a9 s7 D7; have ok8 := D7.ok; have F8 := F7.step0 D7.stp; have q27 := (Pr.own 2 3 1 (List.length xs) (List.map Ty.int xs)).up D7.stp q22
    have q28 : a9.eval (.tmp 5) = a8.eval (.tmp 5) := D7.same 5 rfl
    have q29 := D7.kt q23 rfl; have q30 := D7.kt q24 rfl; have q31 := D7.dn 0 (by decide) rfl rfl; have q32 := D7.dn 2 (by decide) rfl rfl; clear D7
    refine tail_step (m := 2) (R := (fun v τ => Own τ 2 3 1 v ((List.length xs) + 1) ((List.map Ty.int xs) ++ [(Ty.nat (List.length xs))]))) rfl rfl (by decide) ok8 (m_append Try.underlying23 Try.inf3 (by decide) rfl (by decide) (al q31 q27) q32 (by intro U hU; simp at hU;  subst hU; exact one_val rfl) (by omega) (by omega)) (fun a10 s8 hs1 ok9 r1 sm1 => ?_)
    have F9 := F8.step hs1 (by decide)
    have q33 : At (Ty.nat n) s8 a10 (.tmp 0) := kpm hs1 (by decide) (sm1 0 (by decide)) q29
    have q34 : At (Ty.lst Ty.int l) s8 a10 (.tmp 1) := kpm hs1 (by decide) (sm1 1 (by decide)) q30
    have q35 : At (Ty.sl 1 1 [(Ty.nat (List.length xs))]) s8 a10 (.tmp 21) := kpm hs1 (by decide) (sm1 21 (by decide)) q32
    have q36 : (Pr.own 2 3 1 (List.length (xs ++ [(((List.length xs) : Nat) : Int)])) (List.map Ty.int (xs ++ [(((List.length xs) : Nat) : Int)]))).has s8 (a10.eval (.tmp 22)) := (cvo (by simp) (by first | (rw [List.map_append]; rfl) | simp) r1)
    refine tail_step (m := 0) (R := (fun v τ => Pr.has (Pr.own 2 3 1 (List.length (xs ++ [(((List.length xs) : Nat) : Int)])) (List.map Ty.int (xs ++ [(((List.length xs) : Nat) : Int)]))) τ v)) rfl rfl (by decide) ok9 (Yld.toM (y_assign q36)) (fun a11 s9 hs2 ok10 r2 sm2 => ?_)
    have F10 := F9.step hs2 (by decide)
    have q37 : At (Ty.nat n) s9 a11 (.tmp 0) := kpm hs2 (by decide) (sm2 0 (by decide)) q33
    have q38 : At (Ty.lst Ty.int l) s9 a11 (.tmp 1) := kpm hs2 (by decide) (sm2 1 (by decide)) q34
    have q39 : At (Ty.sl 1 1 [(Ty.nat (List.length xs))]) s9 a11 (.tmp 21) := kpm hs2 (by decide) (sm2 21 (by decide)) q35
    have q40 : (Pr.own 2 3 1 (List.length (xs ++ [(((List.length xs) : Nat) : Int)])) (List.map Ty.int (xs ++ [(((List.length xs) : Nat) : Int)]))).has s9 (a11.eval (.tmp 22)) := kpmo hs2 (by decide) (.inl rfl) (sm2 22 (by decide)) q36
    have q41 : (Pr.own 2 3 1 (List.length (xs ++ [(((List.length xs) : Nat) : Int)])) (List.map Ty.int (xs ++ [(((List.length xs) : Nat) : Int)]))).has s9 (a11.eval (.tmp 5)) := r2
    refine wpList_nil ?_; refine bn ?_
    exact tn ⟨n + 2 - ((xs ++ [((xs.length : Nat) : Int)])).length, by simp; omega, s9, (xs ++ [((xs.length : Nat) : Int)]), (f-1), rfl, F10, ok10, (cvo (by (simp)) (by (simp)) q41), q37, q38, by simp; omega, by simp; omega, by rw [List.length_append]; exact rowF_yes heq (by omega) hf c2, rfl⟩
   ·
    have c2 := of_decide_eq_false c2
    refine reg2 (a := a8) (σ := s6) rfl 5 (fun i_ => List.getD [(Ty.pr (Ty.val (a8.eval (.tmp 5)))), (Ty.pr (Ty.nat (List.length xs))), (Ty.pr (Ty.int ((((List.length xs) : Nat) : Int) + (1 : Int)))), (Ty.pr (Ty.nat (List.length xs))), (Ty.pr (Ty.sl 1 2 [(Ty.int ((((List.length xs) : Nat) : Int) + (1 : Int))), (Ty.nat (List.length xs))]))] i_ Pr.any) ok7 rfl (by decide) rfl ⟨?_, ?_, ?_, ?_, ?_, trivial⟩ ?_
    · intro A B E G H; exact rP (y_move (H 5 rfl))
    · intro A B E G H; exact rP (y_move (kp (H 6 rfl) E q25))
    · intro A B E G H d0; exact rP (y_add (ed d0 rfl rfl rfl) rfl (w64 (by omega) (by omega)))
    · intro A B E G H; exact rP (y_move (kp (H 6 rfl) E q25))
    · intro A B E G H d0 d1; exact rP (y_build2 Try.underlying23 Try.inf3 rfl (one_val rfl) (one_val rfl) (ed d0 rfl rfl rfl) (ed d1 rfl rfl rfl))
    intro a12 s10 D8; have ok11 := D8.ok; have F11 := F7.step0 D8.stp; have q42 := (Pr.own 2 3 1 (List.length xs) (List.map Ty.int xs)).up D8.stp q22
    have q43 : a12.eval (.tmp 5) = a8.eval (.tmp 5) := D8.same 5 rfl
    have q44 := D8.kt q23 rfl; have q45 := D8.kt q24 rfl; have q46 := D8.dn 0 (by decide) rfl rfl; have q47 := D8.dn 4 (by decide) rfl rfl; clear D8
    refine tail_step (m := 2) (R := (fun v τ => Own τ 2 3 1 v ((List.length xs) + 2) ((List.map Ty.int xs) ++ [(Ty.int ((((List.length xs) : Nat) : Int) + (1 : Int))), (Ty.nat (List.length xs))]))) rfl rfl (by decide) ok11 (m_append Try.underlying23 Try.inf3 (by decide) rfl (by decide) (al q46 q42) q47 (by intro U hU; simp at hU;  rcases hU with rfl | rfl <;> exact one_val rfl) (by omega) (by omega)) (fun a13 s11 hs3 ok12 r3 sm3 => ?_)
    have F12 := F11.step hs3 (by decide)
    have q48 : At (Ty.nat n) s11 a13 (.tmp 0) := kpm hs3 (by decide) (sm3 0 (by decide)) q44
    have q49 : At (Ty.lst Ty.int l) s11 a13 (.tmp 1) := kpm hs3 (by decide) (sm3 1 (by decide)) q45
    have q50 : At (Ty.sl 1 2 [(Ty.int ((((List.length xs) : Nat) : Int) + (1 : Int))), (Ty.nat (List.length xs))]) s11 a13 (.tmp 27) := kpm hs3 (by decide) (sm3 27 (by decide)) q47
    have q51 : (Pr.own 2 3 1 (List.length (xs ++ [((((List.length xs) : Nat) : Int) + (1 : Int)), (((List.length xs) : Nat) : Int)])) (List.map Ty.int (xs ++ [((((List.length xs) : Nat) : Int) + (1 : Int)), (((List.length xs) : Nat) : Int)]))).has s11 (a13.eval (.tmp 28)) := (cvo (by simp) (by first | (rw [List.map_append]; rfl) | simp) r3)
    refine tail_step (m := 0) (R := (fun v τ => Pr.has (Pr.own 2 3 1 (List.length (xs ++ [((((List.length xs) : Nat) : Int) + (1 : Int)), (((List.length xs) : Nat) : Int)])) (List.map Ty.int (xs ++ [((((List.length xs) : Nat) : Int) + (1 : Int)), (((List.length xs) : Nat) : Int)]))) τ v)) rfl rfl (by decide) ok12 (Yld.toM (y_assign q51)) (fun a14 s12 hs4 ok13 r4 sm4 => ?_)
    have F13 := F12.step hs4 (by decide)
    have q52 : At (Ty.nat n) s12 a14 (.tmp 0) := kpm hs4 (by decide) (sm4 0 (by decide)) q48
    have q53 : At (Ty.lst Ty.int l) s12 a14 (.tmp 1) := kpm hs4 (by decide) (sm4 1 (by decide)) q49
    have q54 : At (Ty.sl 1 2 [(Ty.int ((((List.length xs) : Nat) : Int) + (1 : Int))), (Ty.nat (List.length xs))]) s12 a14 (.tmp 27) := kpm hs4 (by decide) (sm4 27 (by decide)) q50
    have q55 : (Pr.own 2 3 1 (List.length (xs ++ [((((List.length xs) : Nat) : Int) + (1 : Int)), (((List.length xs) : Nat) : Int)])) (List.map Ty.int (xs ++ [((((List.length xs) : Nat) : Int) + (1 : Int)), (((List.length xs) : Nat) : Int)]))).has s12 (a14.eval (.tmp 28)) := kpmo hs4 (by decide) (.inl rfl) (sm4 28 (by decide)) q51
    have q56 : (Pr.own 2 3 1 (List.length (xs ++ [((((List.length xs) : Nat) : Int) + (1 : Int)), (((List.length xs) : Nat) : Int)])) (List.map Ty.int (xs ++ [((((List.length xs) : Nat) : Int) + (1 : Int)), (((List.length xs) : Nat) : Int)]))).has s12 (a14.eval (.tmp 5)) := r4
    refine wpList_nil ?_; refine bn ?_
    exact tn ⟨n + 2 - ((xs ++ [((xs.length : Nat) : Int) + 1, ((xs.length : Nat) : Int)])).length, by simp; omega, s12, (xs ++ [((xs.length : Nat) : Int) + 1, ((xs.length : Nat) : Int)]), (f-1), rfl, F13, ok13, (cvo (by (simp)) (by (simp)) q56), q52, q53, by simp; omega, by simp; omega, by rw [List.length_append]; exact rowF_no heq (by omega) hf c2, rfl⟩
  ·
   refine wp_exit ?_; refine tx ?_; refine tx ?_; refine bx ?_; refine tn ?_; refine wp_seq ?_
   refine rg a5 s3 [(Ty.val (a5.eval (.tmp 5))), (Ty.val (a5.eval (.tmp 5)))] ok4 ⟨?_, ?_, trivial⟩ ?_
   · intro A B E G H; exact rP (y_move (H 5 rfl))
   · intro A B E G H d0 d1; exact rP (y_assign (ed d0 rfl rfl rfl))
   intro a15 s13 D9; have ok14 := D9.ok; have F14 := F4.step0 D9.stp
   have q57 : (Pr.own 2 3 1 (List.length xs) (List.map Ty.int xs)).has s13 (a15.eval (.tmp 4)) := al (show _ = _ from D9.done 1) ((Pr.own 2 3 1 (List.length xs) (List.map Ty.int xs)).up D9.stp q9)
   clear D9; refine tn ?_; refine wp_ret ?_
   obtain ⟨t3, e1, h1, q58⟩ := Own.seal q57 (by decide)
   rw [← e1]
   have F15 := F14.step h1 (by decide)
   exact ret1 rfl ok14 F15 (cvt (by (rw [rowF_end (by omega), List.append_nil] at heq; rw [heq])) q58)


set_option maxRecDepth 100000 in
theorem rBy_fn (a : List Int) (b : List Int) (σ : GW) (v0 v1 : Value) (hv0 : Ty.has (Ty.lst Ty.int a) σ v0) (hv1 : Ty.has (Ty.lst Ty.int b) σ v1) (hbd : ∀ i, i < b.length → 0 ≤ b.getD i 0 ∧ b.getD i 0 < a.length) (E : b.length ≤ 1000000) :
    FnC Try.prog 65 #[v0, v1] σ (Ty.lst Ty.int (byL a b)) := by
 refine fn_intro Try.func65 rfl Try.ntmps65 (Nat.le_of_ble_eq_true rfl) (fun s0 a0 hle F0 ok0 hargs => ?_)
 have p0 : At (Ty.lst Ty.int a) s0 a0 (.tmp 0) := by have e := hargs 0 _ rfl; show Ty.has _ _ _; rw [e]; exact Ty.up _ hle hv0
 have b1 := sl_le p0
 have p1 : At (Ty.lst Ty.int b) s0 a0 (.tmp 1) := by have e := hargs 1 _ rfl; show Ty.has _ _ _; rw [e]; exact Ty.up _ hle hv1
 have b2 := sl_le p1
 clear hargs; refine wp_seq ?_
 refine rg a0 s0 [(Ty.val (Value.slice none 0 0))] ok0 ⟨?_, trivial⟩ ?_
 · intro A B E G H; exact rP (y_assign rfl)
 intro a1 s1 D1; have ok1 := D1.ok; have F1 := F0.step0 D1.stp; have q1 := D1.kt p0 rfl; have q2 := D1.kt p1 rfl; clear D1; refine tn ?_; refine wp_seq ?_
 refine rg a1 s1 [(Ty.val (Value.slice none 0 0))] ok1 ⟨?_, trivial⟩ ?_
 · intro A B E G H; exact rP (y_assign rfl)
 intro a2 s2 D2; have ok2 := D2.ok; have F2 := F1.step0 D2.stp; have q3 := D2.kt q1 rfl; have q4 := D2.kt q2 rfl; have q5 := D2.dn 0 rfl rfl; clear D2; refine tn ?_; refine wp_seq ?_; refine wp_seq ?_
 refine rg a2 s2 [(Ty.int (0 : Int))] ok2 ⟨?_, trivial⟩ ?_
 · intro A B E G H; exact rP (y_assign rfl)
 intro a3 s3 D3; have ok3 := D3.ok; have F3 := F2.step0 D3.stp; have q6 := D3.kt q3 rfl; have q7 := D3.kt q4 rfl; have q8 := D3.kt q5 rfl; have q9 := D3.dn 0 rfl rfl; clear D3; refine tn ?_; refine wp_block ?_
 refine loop (fun n1 a4 w1 => ∃ (t1 : GW) (k : Nat), t1.w = w1 ∧ From s0 t1 ∧ Ok 24 a4 ∧ (Pr.own 2 3 1 (List.length (byL a (b.take k))) (List.map Ty.int (byL a (b.take k)))).has t1 (a4.eval (.tmp 5)) ∧ At (Ty.nat k) t1 a4 (.tmp 6) ∧ At (Ty.lst Ty.int a) t1 a4 (.tmp 0) ∧ At (Ty.lst Ty.int b) t1 a4 (.tmp 1) ∧ (k ≤ b.length) ∧ n1 = b.length - k) (b.length - (0)) ?_ ?_
 ·
  exact ⟨s3, 0, rfl, F3, ok3, (by have e : a3.eval (.tmp 5) = _ := q8; rw [e]; exact Own.nil _ _ _ _), (cvi (by (first | rfl | omega | (simp_all; done) | (simp_all; omega))) q9), q6, q7, by omega, rfl⟩
 ·
  rintro n2 a5 w2 ⟨t2, k, rfl, F4, ok4, q10, q11, q12, q13, hk, rfl⟩
  have hp := byL_take_len a b k
  refine wp_seq ?_; refine wp_seq ?_
  refine reg (a := a5) (σ := t2) rfl (fun i_ => List.getD [(Ty.pr (Ty.nat k)), (Ty.pr (Ty.lst Ty.int b)), (Ty.pr (Ty.nat (List.length b))), (Ty.pr (Ty.bool (decide (((k : Nat) : Int) < (((List.length b) : Nat) : Int)))))] i_ Pr.any) ok4 rfl ⟨?_, ?_, ?_, ?_, trivial⟩ ?_
  · intro A B E G H; exact rP (y_move (kp (H 6 rfl) E q11))
  · intro A B E G H; exact rP (y_move (kp (H 1 rfl) E q13))
  · intro A B E G H d0; exact rP (y_len Try.underlying23 (ed d0 rfl rfl rfl))
  · intro A B E G H d0 d1; exact rP (y_lss (ed d0 rfl rfl rfl) (ed d1 rfl rfl rfl))
  intro a6 s4 D4; have ok5 := D4.ok; have F5 := F4.step0 D4.stp
  have q14 : (Pr.own 2 3 1 (List.length (byL a (b.take k))) (List.map Ty.int (byL a (b.take k)))).has s4 (a6.eval (.tmp 5)) := D4.ko q10 rfl
  have q15 := D4.kt q11 rfl; have q16 := D4.kt q12 rfl; have q17 := D4.kt q13 rfl; have q18 := D4.dn 3 rfl rfl; clear D4; refine tn ?_
  refine cond_p (p := (((k : Nat) : Int) < (((List.length b) : Nat) : Int))) q18 (fun c1 => ?_) (fun c1 => ?_)
  ·
   have hq := hbd k (by omega)
   refine wp_skip ?_; refine tn ?_; refine wp_seq ?_; refine wp_block ?_
   refine reg2 (a := a6) (σ := s4) rfl 9 (fun i_ => List.getD [(Ty.pr (Ty.val (a6.eval (.tmp 5)))), (Ty.pr (Ty.lst Ty.int a)), (Ty.pr (Ty.lst Ty.int b)), (Ty.pr (Ty.nat k)), (Ty.pr (Ty.ref [(Ty.int (b.getD k 0))])), (Ty.pr (Ty.int (b.getD k 0))), (Ty.pr (Ty.ref [(Ty.int (a.getD ((b.getD k 0)).toNat 0))])), (Ty.pr (Ty.int (a.getD ((b.getD k 0)).toNat 0))), (Ty.pr (Ty.sl 1 1 [(Ty.int (a.getD ((b.getD k 0)).toNat 0))]))] i_ Pr.any) ok5 rfl (by decide) rfl ⟨?_, ?_, ?_, ?_, ?_, ?_, ?_, ?_, ?_, trivial⟩ ?_
   · intro A B E G H; exact rP (y_move (H 5 rfl))
   · intro A B E G H; exact rP (y_move (kp (H 0 rfl) E q16))
   · intro A B E G H; exact rP (y_move (kp (H 1 rfl) E q17))
   · intro A B E G H; exact rP (y_move (kp (H 6 rfl) E q15))
   · intro A B E G H d0 d1; exact rP (y_index1 Try.underlying23 Try.inf3 (ed d0 rfl rfl rfl) (ed d1 rfl rfl rfl) (by omega) (lst_get Ty.int b 0 k (by omega)))
   · intro A B E G H d0; exact rP (y_load Try.underlying3 rfl (ed d0 rfl rfl rfl) rfl)
   · intro A B E G H d0 d1; exact rP (y_index1 Try.underlying23 Try.inf3 (ed d0 rfl rfl rfl) (ed d1 rfl rfl rfl) (by omega) (lst_get Ty.int a 0 ((b.getD k 0)).toNat (by omega)))
   · intro A B E G H d0; exact rP (y_load Try.underlying3 rfl (ed d0 rfl rfl rfl) rfl)
   · intro A B E G H d0; exact rP (y_build1o Try.underlying23 Try.inf3 rfl (one_val rfl) (ed d0 rfl rfl rfl))
   intro a7 s5 D5; have ok6 := D5.ok; have F6 := F5.step0 D5.stp; have q19 := (Pr.own 2 3 1 (List.length (byL a (b.take k))) (List.map Ty.int (byL a (b.take k)))).up D5.stp q14
   have q20 : a7.eval (.tmp 5) = a6.eval (.tmp 5) := D5.same 5 rfl
   have q21 := D5.kt q15 rfl; have q22 := D5.kt q16 rfl; have q23 := D5.kt q17 rfl; have q24 := D5.dn 0 (by decide) rfl rfl; have q25 := D5.dn 8 (by decide) rfl rfl; clear D5
   refine tail_step (m := 2) (R := (fun v τ => Own τ 2 3 1 v ((List.length (byL a (b.take k))) + 1) ((List.map Ty.int (byL a (b.take k))) ++ [(Ty.int (a.getD ((b.getD k 0)).toNat 0))]))) rfl rfl (by decide) ok6 (m_append Try.underlying23 Try.inf3 (by decide) rfl (by decide) (al q24 q19) q25 (by intro U hU; simp at hU;  subst hU; exact one_val rfl) (by omega) (by omega)) (fun a8 s6 hs1 ok7 r1 sm1 => ?_)
   have F7 := F6.step hs1 (by decide)
   have q26 : At (Ty.nat k) s6 a8 (.tmp 6) := kpm hs1 (by decide) (sm1 6 (by decide)) q21
   have q27 : At (Ty.lst Ty.int a) s6 a8 (.tmp 0) := kpm hs1 (by decide) (sm1 0 (by decide)) q22
   have q28 : At (Ty.lst Ty.int b) s6 a8 (.tmp 1) := kpm hs1 (by decide) (sm1 1 (by decide)) q23
   have q29 : At (Ty.sl 1 1 [(Ty.int (a.getD ((b.getD k 0)).toNat 0))]) s6 a8 (.tmp 21) := kpm hs1 (by decide) (sm1 21 (by decide)) q25
   have q30 : (Pr.own 2 3 1 (List.length ((byL a (b.take k)) ++ [(a.getD ((b.getD k 0)).toNat 0)])) (List.map Ty.int ((byL a (b.take k)) ++ [(a.getD ((b.getD k 0)).toNat 0)]))).has s6 (a8.eval (.tmp 22)) := (cvo (by simp) (by first | (rw [List.map_append]; rfl) | simp) r1)
   refine tail_step (m := 0) (R := (fun v τ => Pr.has (Pr.own 2 3 1 (List.length ((byL a (b.take k)) ++ [(a.getD ((b.getD k 0)).toNat 0)])) (List.map Ty.int ((byL a (b.take k)) ++ [(a.getD ((b.getD k 0)).toNat 0)]))) τ v)) rfl rfl (by decide) ok7 (Yld.toM (y_assign q30)) (fun a9 s7 hs2 ok8 r2 sm2 => ?_)
   have F8 := F7.step hs2 (by decide)
   have q31 : At (Ty.nat k) s7 a9 (.tmp 6) := kpm hs2 (by decide) (sm2 6 (by decide)) q26
   have q32 : At (Ty.lst Ty.int a) s7 a9 (.tmp 0) := kpm hs2 (by decide) (sm2 0 (by decide)) q27
   have q33 : At (Ty.lst Ty.int b) s7 a9 (.tmp 1) := kpm hs2 (by decide) (sm2 1 (by decide)) q28
   have q34 : At (Ty.sl 1 1 [(Ty.int (a.getD ((b.getD k 0)).toNat 0))]) s7 a9 (.tmp 21) := kpm hs2 (by decide) (sm2 21 (by decide)) q29
   have q35 : (Pr.own 2 3 1 (List.length ((byL a (b.take k)) ++ [(a.getD ((b.getD k 0)).toNat 0)])) (List.map Ty.int ((byL a (b.take k)) ++ [(a.getD ((b.getD k 0)).toNat 0)]))).has s7 (a9.eval (.tmp 22)) := kpmo hs2 (by decide) (.inl rfl) (sm2 22 (by decide)) q30
   have q36 : (Pr.own 2 3 1 (List.length ((byL a (b.take k)) ++ [(a.getD ((b.getD k 0)).toNat 0)])) (List.map Ty.int ((byL a (b.take k)) ++ [(a.getD ((b.getD k 0)).toNat 0)]))).has s7 (a9.eval (.tmp 5)) := r2
   refine wpList_nil ?_; refine bn ?_; refine tn ?_
   refine rg a9 s7 [(Ty.nat k), (Ty.int (((k : Nat) : Int) + (1 : Int))), (Ty.int (((k : Nat) : Int) + (1 : Int)))] ok8 ⟨?_, ?_, ?_, trivial⟩ ?_
   · intro A B E G H; exact rP (y_move (kp (H 6 rfl) E q31))
   · intro A B E G H d0; exact rP (y_add (ed d0 rfl rfl rfl) rfl (w64 (by omega) (by omega)))
   · intro A B E G H d0 d1 d2; exact rP (y_assign (ed d0 rfl rfl rfl))
   intro a10 s8 D6; have ok9 := D6.ok; have F9 := F8.step0 D6.stp; have q37 := D6.kt q32 rfl; have q38 := D6.kt q33 rfl
   have q39 : (Pr.own 2 3 1 (List.length ((byL a (b.take k)) ++ [(a.getD ((b.getD k 0)).toNat 0)])) (List.map Ty.int ((byL a (b.take k)) ++ [(a.getD ((b.getD k 0)).toNat 0)]))).has s8 (a10.eval (.tmp 5)) := D6.ko q36 rfl
   have q40 := D6.dn 2 rfl rfl; clear D6
   exact tn ⟨b.length - ((k+1)), by omega, s8, (k+1), rfl, F9, ok9, (cvo (by (rw [byL_snoc a b k (by omega)])) (by (rw [byL_snoc a b k (by omega)])) q39), (cvi (by (first | rfl | omega | (simp_all; done) | (simp_all; omega))) q40), q37, q38, by omega, rfl⟩
  ·
   refine wp_exit ?_; refine tx ?_; refine tx ?_; refine bx ?_; refine tn ?_; refine wp_seq ?_
   refine rg a6 s4 [(Ty.val (a6.eval (.tmp 5))), (Ty.val (a6.eval (.tmp 5)))] ok5 ⟨?_, ?_, trivial⟩ ?_
   · intro A B E G H; exact rP (y_move (H 5 rfl))
   · intro A B E G H d0 d1; exact rP (y_assign (ed d0 rfl rfl rfl))
   intro a11 s9 D7; have ok10 := D7.ok; have F10 := F5.step0 D7.stp
   have q41 : (Pr.own 2 3 1 (List.length (byL a (b.take k))) (List.map Ty.int (byL a (b.take k)))).has s9 (a11.eval (.tmp 4)) := al (show _ = _ from D7.done 1) ((Pr.own 2 3 1 (List.length (byL a (b.take k))) (List.map Ty.int (byL a (b.take k)))).up D7.stp q14)
   clear D7; refine tn ?_; refine wp_ret ?_
   obtain ⟨t3, e1, h1, q42⟩ := Own.seal q41 (by decide)
   rw [← e1]
   have F11 := F10.step h1 (by decide)
   exact ret1 rfl ok10 F11 (cvt (by (obtain rfl : k = b.length := (by omega); rw [List.take_length])) q42)


set_option maxHeartbeats 4000000 in
set_option maxRecDepth 100000 in
theorem rFrom_fn (r : List Int) (l : List (List Int)) (σ : GW)  (v0 v1 : Value) (hv0 : Ty.has (Ty.lst Ty.int r) σ v0) (hv1 : Ty.has (Ty.lst Ty.ints l) σ v1)  (hr : r.length ≤ 12) (hok : ∀ k, k < l.length → okL 0 (l.getD k []) r.length) (hl : l.length ≤ 200) :
    FnC Try.prog 63 #[v0, v1] σ (Ty.lst Ty.ints (fromL r l)) := by
 refine fn_intro0 Try.func63 rfl Try.ntmps63 (Nat.le_of_ble_eq_true rfl) (fun s0 a0 hle F0 ok0 hargs => ?_)
 have p0 : At (Ty.lst Ty.int r) s0 a0 (.tmp 0) := by have e := hargs 0 _ rfl; show Ty.has _ _ _; rw [e]; exact Ty.up _ hle hv0
 have b1 := sl_le p0
 have p1 : At (Ty.lst Ty.ints l) s0 a0 (.tmp 1) := by have e := hargs 1 _ rfl; show Ty.has _ _ _; rw [e]; exact Ty.up _ hle hv1
 have b2 := sl_le p1
 clear hargs; refine wp_seq ?_
 refine rg a0 s0 [(Ty.val (Value.slice none 0 0))] ok0 ⟨?_, trivial⟩ ?_
 · intro A B E G H; exact rP (y_assign rfl)
 intro a1 s1 D1; have ok1 := D1.ok; have F1 := F0.step0 D1.stp; have q1 := D1.kt p0 rfl; have q2 := D1.kt p1 rfl; clear D1; refine tn ?_; refine wp_seq ?_
 refine reg2 (a := a1) (σ := s1) rfl 2 (fun i_ => List.getD [(Ty.pr (Ty.lst Ty.int r)), (Pr.own 5 23 1 1 (List.map Ty.ints [r]))] i_ Pr.any) ok1 rfl (by decide) rfl ⟨?_, ?_, trivial⟩ ?_
 · intro A B E G H; exact rP (y_move (kp (H 0 rfl) E q1))
 · intro A B E G H d0; exact rP ((y_lit1 (k := 5) Try.underlying29 Try.inf23 rfl (one_sl) (ed d0 rfl rfl rfl)).mono (fun _ _ h => cvo (by simp) (by simp) h))
 intro a2 s2 D2; have ok2 := D2.ok; have F2 := F1.step0 D2.stp; have q3 := D2.kt q1 rfl; have q4 := D2.kt q2 rfl
 obtain ⟨x1, hx1⟩ : ∃ x, a2.eval (.tmp 9) = x := ⟨_, rfl⟩
 have q5 : At (Ty.val x1) s2 a2 (.tmp 9) := hx1
 have o1 : Own s2 5 23 1 x1 1 (List.map Ty.ints [r]) := al2 (R := (Pr.own 5 23 1 1 (List.map Ty.ints [r]))) hx1 (D2.done 1 (by decide))
 clear D2
 refine tailL (L := []) (R := (fun v τ => Pr.has (Ty.pr (Ty.val x1)) τ v)) rfl rfl (by decide) ok2 (Yld.toL (y_assign q5)) (fun a3 s3 hs1 ok3 r1 sm1 => ?_)
 have F3 := F2.stepL hs1 (by decide); have q6 := kpL hs1 (by decide) (sm1 0 (by decide)) q3; have q7 := kpL hs1 (by decide) (sm1 1 (by decide)) q4; have o2 := Own.keepL o1 hs1 (by decide) (by decide)
 have q8 : At (Ty.val x1) s3 a3 (.tmp 5) := r1
 clear r1; refine wpList_nil ?_; refine tn ?_; refine wp_seq ?_; refine wp_seq ?_
 refine rg a3 s3 [(Ty.int (0 : Int))] ok3 ⟨?_, trivial⟩ ?_
 · intro A B E G H; exact rP (y_assign rfl)
 intro a4 s4 D3; have ok4 := D3.ok; have F4 := F3.step0 D3.stp; have q9 := D3.kt q6 rfl; have q10 := D3.kt q7 rfl; have q11 := D3.kt q8 rfl; have o3 := Own.k0 o2 D3.stp; have q12 := D3.dn 0 rfl rfl; clear D3; refine tn ?_; refine wp_block ?_
 refine loop (fun n1 a5 w1 => ∃ (t1 : GW) (k : Nat) (x5_0 : Value), t1.w = w1 ∧ FromL [] s0 t1 ∧ Ok 31 a5 ∧ At (Ty.nat k) t1 a5 (.tmp 6) ∧ At (Ty.lst Ty.int (curL r l k)) t1 a5 (.tmp 0) ∧ At (Ty.val x5_0) t1 a5 (.tmp 5) ∧ At (Ty.lst Ty.ints l) t1 a5 (.tmp 1) ∧ Own t1 5 23 1 x5_0 (List.length (fromTo r l k)) (List.map Ty.ints (fromTo r l k)) ∧ (k ≤ l.length) ∧ n1 = l.length - k) (l.length - (0)) ?_ ?_
 ·
  exact ⟨s4, 0, x1, rfl, F4, ok4, (cvi (by (first | rfl | omega | (simp_all; done) | (simp_all; omega))) q12), (cvt (by (rfl)) q9), q11, q10, (cvo (by (simp [fromTo_zero])) (by (simp [fromTo_zero])) o3), by omega, rfl⟩
 ·
  rintro n2 a6 w2 ⟨t2, k, x5_0, rfl, F5, ok5, q13, q14, q15, q16, o4, hk, rfl⟩
  have hcl := curL_len hok k hk
  have hfl := fromTo_len r l k
  refine wp_seq ?_; refine wp_seq ?_
  refine reg (a := a6) (σ := t2) rfl (fun i_ => List.getD [(Ty.pr (Ty.nat k)), (Ty.pr (Ty.lst Ty.ints l)), (Ty.pr (Ty.nat (List.length l))), (Ty.pr (Ty.bool (decide (((k : Nat) : Int) < (((List.length l) : Nat) : Int)))))] i_ Pr.any) ok5 rfl ⟨?_, ?_, ?_, ?_, trivial⟩ ?_
  · intro A B E G H; exact rP (y_move (kp (H 6 rfl) E q13))
  · intro A B E G H; exact rP (y_move (kp (H 1 rfl) E q16))
  · intro A B E G H d0; exact rP (y_len Try.underlying29 (ed d0 rfl rfl rfl))
  · intro A B E G H d0 d1; exact rP (y_lss (ed d0 rfl rfl rfl) (ed d1 rfl rfl rfl))
  intro a7 s5 D4; have ok6 := D4.ok; have F6 := F5.step0 D4.stp; have q17 := D4.kt q13 rfl; have q18 := D4.kt q14 rfl; have q19 := D4.kt q15 rfl; have q20 := D4.kt q16 rfl; have o5 := Own.k0 o4 D4.stp; have q21 := D4.dn 3 rfl rfl; clear D4; refine tn ?_
  refine cond_p (p := (((k : Nat) : Int) < (((List.length l) : Nat) : Int))) q21 (fun c1 => ?_) (fun c1 => ?_)
  ·
   have hokk := hok k (by omega); rw [← hcl] at hokk; have hcc := chgRow_len hokk; have hcd := hcc.symm; have hcl0 : (curL r l k).length ≤ 12 := (by omega); have hbd : ∀ i, i < (chgRow (curL r l k).length (l.getD k [])).length → 0 ≤ (chgRow (curL r l k).length (l.getD k [])).getD i 0 ∧ (chgRow (curL r l k).length (l.getD k [])).getD i 0 < ((curL r l k).length : Int) := (fun i hi => chgRow_bd hokk hi)
   refine wp_skip ?_; refine tn ?_; refine wp_seq ?_; refine wp_block ?_; refine wp_seq ?_
   refine rg a7 s5 [(Ty.lst Ty.int (curL r l k)), (Ty.nat (List.length (curL r l k))), (Ty.lst Ty.ints l), (Ty.nat k), (Ty.ref [(Ty.lst Ty.int (l.getD k []))]), (Ty.lst Ty.int (l.getD k [])), (Ty.lst Ty.int (chgRow ((List.length (curL r l k))) ((l.getD k [])))), (Ty.lst Ty.int (chgRow ((List.length (curL r l k))) ((l.getD k []))))] ok6 ⟨?_, ?_, ?_, ?_, ?_, ?_, ?_, ?_, trivial⟩ ?_
   · intro A B E G H; exact rP (y_move (kp (H 0 rfl) E q18))
   · intro A B E G H d0; exact rP (y_len Try.underlying23 (ed d0 rfl rfl rfl))
   · intro A B E G H; exact rP (y_move (kp (H 1 rfl) E q20))
   · intro A B E G H; exact rP (y_move (kp (H 6 rfl) E q17))
   · intro A B E G H d0 d1; exact rP (y_index1 Try.underlying29 Try.inf23 (ed d0 rfl rfl rfl) (ed d1 rfl rfl rfl) (by omega) (lst_get Ty.ints l [] k (by omega)))
   · intro A B E G H d0; exact rP (y_load Try.underlying23 rfl (ed d0 rfl rfl rfl) rfl)
   · intro A B E G H d0 d1; exact rP (y_call #[A.eval (.tmp 17), A.eval (.tmp 21)] Try.func92 rfl rfl (by simp only [List.map_toArray, List.map_cons, List.map_nil]) (rChangeRow_fn ((List.length (curL r l k))) ((l.getD k [])) _ _ _ (cvi (σ := B) (by omega) (ed d0 rfl rfl rfl)) (ed d1 rfl rfl rfl) (by omega)))
   · intro A B E G H d0 d1 d2 d3 d4 d5 d6 d7 d8; exact rP (y_assign (ed d0 rfl rfl rfl))
   intro a8 s6 D5; have ok7 := D5.ok; have F7 := F6.step0 D5.stp; have q22 := D5.kt q17 rfl; have q23 := D5.kt q18 rfl; have q24 := D5.kt q19 rfl; have q25 := D5.kt q20 rfl; have o6 := Own.k0 o5 D5.stp; have q26 := D5.dn 7 rfl rfl; clear D5; refine tn ?_; refine wp_seq ?_
   refine rg a8 s6 [(Ty.lst Ty.int (curL r l k)), (Ty.lst Ty.int (chgRow ((List.length (curL r l k))) ((l.getD k [])))), (Ty.lst Ty.int (byL ((curL r l k)) ((chgRow ((List.length (curL r l k))) ((l.getD k [])))))), (Ty.lst Ty.int (byL ((curL r l k)) ((chgRow ((List.length (curL r l k))) ((l.getD k []))))))] ok7 ⟨?_, ?_, ?_, ?_, trivial⟩ ?_
   · intro A B E G H; exact rP (y_move (kp (H 0 rfl) E q23))
   · intro A B E G H; exact rP (y_move (kp (H 7 rfl) E q26))
   · intro A B E G H d0 d1; exact rP (y_call #[A.eval (.tmp 23), A.eval (.tmp 24)] Try.func65 rfl rfl (by simp only [List.map_toArray, List.map_cons, List.map_nil]) (rBy_fn ((curL r l k)) ((chgRow ((List.length (curL r l k))) ((l.getD k [])))) _ _ _ (ed d0 rfl rfl rfl) (ed d1 rfl rfl rfl) (by first | assumption | omega) (by first | assumption | omega)))
   · intro A B E G H d0 d1 d2 d3 d4; exact rP (y_assign (ed d0 rfl rfl rfl))
   intro a9 s7 D6; have ok8 := D6.ok; have F8 := F7.step0 D6.stp; have q27 := D6.kt q22 rfl; have q28 := D6.kt q24 rfl; have q29 := D6.kt q25 rfl; have o7 := Own.k0 o6 D6.stp; have q30 := D6.dn 3 rfl rfl; clear D6; refine tn ?_
   refine reg2 (a := a9) (σ := s7) rfl 3 (fun i_ => List.getD [(Ty.pr (Ty.val x5_0)), (Ty.pr (Ty.lst Ty.int (byL ((curL r l k)) ((chgRow ((List.length (curL r l k))) ((l.getD k []))))))), (Ty.pr (Ty.sl 1 1 [(Ty.lst Ty.int (byL ((curL r l k)) ((chgRow ((List.length (curL r l k))) ((l.getD k []))))))]))] i_ Pr.any) ok8 rfl (by decide) rfl ⟨?_, ?_, ?_, trivial⟩ ?_
   · intro A B E G H; exact rP (y_move (kp (H 5 rfl) E q28))
   · intro A B E G H; exact rP (y_move (kp (H 0 rfl) E q30))
   · intro A B E G H d0; exact rP (y_build1o Try.underlying29 Try.inf23 rfl (one_sl) (ed d0 rfl rfl rfl))
   intro a10 s8 D7; have ok9 := D7.ok; have F9 := F8.step0 D7.stp; have q31 := D7.kt q27 rfl; have q32 := D7.kt q28 rfl; have q33 := D7.kt q29 rfl; have q34 := D7.kt q30 rfl; have o8 := Own.k0 o7 D7.stp
   have q35 : At (Ty.val x5_0) s8 a10 (.tmp 26) := D7.done 0 (by decide)
   have q36 := D7.dn 2 (by decide) rfl rfl
   have b3 := sl_le q36
   clear D7
   refine tailL (L := [5]) (R := (fun v τ => Own τ 5 23 1 v ((List.length (fromTo r l k)) + 1) ((List.map Ty.ints (fromTo r l k)) ++ [(Ty.lst Ty.int (byL ((curL r l k)) ((chgRow ((List.length (curL r l k))) ((l.getD k []))))))]))) rfl rfl (by decide) ok9 (YldM.toL (m_append Try.underlying29 Try.inf23 (by decide) rfl (by decide) (al (R := (Pr.own 5 23 1 (List.length (fromTo r l k)) (List.map Ty.ints (fromTo r l k)))) q35 o8) q36 (by intro U hU; simp at hU; subst hU; exact one_sl) (by omega) (by omega))) (fun a11 s9 hs2 ok10 r2 sm2 => ?_)
   have F10 := F9.stepL hs2 (by decide); have q37 := kpL hs2 (by decide) (sm2 6 (by decide)) q31; have q38 := kpL hs2 (by decide) (sm2 5 (by decide)) q32; have q39 := kpL hs2 (by decide) (sm2 1 (by decide)) q33; have q40 := kpL hs2 (by decide) (sm2 0 (by decide)) q34
   obtain ⟨x2, hx2⟩ : ∃ x, a11.eval (.tmp 29) = x := ⟨_, rfl⟩
   have q41 : At (Ty.val x2) s9 a11 (.tmp 29) := hx2
   have o9 : Own s9 5 23 1 x2 (List.length ((fromTo r l k) ++ [(byL ((curL r l k)) ((chgRow ((List.length (curL r l k))) ((l.getD k [])))))])) (List.map Ty.ints ((fromTo r l k) ++ [(byL ((curL r l k)) ((chgRow ((List.length (curL r l k))) ((l.getD k [])))))])) := al2 (R := (Pr.own 5 23 1 (List.length ((fromTo r l k) ++ [(byL ((curL r l k)) ((chgRow ((List.length (curL r l k))) ((l.getD k [])))))])) (List.map Ty.ints ((fromTo r l k) ++ [(byL ((curL r l k)) ((chgRow ((List.length (curL r l k))) ((l.getD k [])))))])))) hx2 (cvo (by simp) (by first | (rw [List.map_append]; rfl) | simp) r2)
   clear r2
   refine tailL (L := []) (R := (fun v τ => Pr.has (Ty.pr (Ty.val x2)) τ v)) rfl rfl (by decide) ok10 (Yld.toL (y_assign q41)) (fun a12 s10 hs3 ok11 r3 sm3 => ?_)
   have F11 := F10.stepL hs3 (by decide); have q42 := kpL hs3 (by decide) (sm3 6 (by decide)) q37; have q43 := kpL hs3 (by decide) (sm3 1 (by decide)) q39; have q44 := kpL hs3 (by decide) (sm3 0 (by decide)) q40; have o10 := Own.keepL o9 hs3 (by decide) (by decide)
   have q45 : At (Ty.val x2) s10 a12 (.tmp 5) := r3
   clear r3; refine wpList_nil ?_; refine bn ?_; refine tn ?_
   refine rg a12 s10 [(Ty.nat k), (Ty.int (((k : Nat) : Int) + (1 : Int))), (Ty.int (((k : Nat) : Int) + (1 : Int)))] ok11 ⟨?_, ?_, ?_, trivial⟩ ?_
   · intro A B E G H; exact rP (y_move (kp (H 6 rfl) E q42))
   · intro A B E G H d0; exact rP (y_add (ed d0 rfl rfl rfl) rfl (w64 (by omega) (by omega)))
   · intro A B E G H d0 d1 d2; exact rP (y_assign (ed d0 rfl rfl rfl))
   intro a13 s11 D8; have ok12 := D8.ok; have F12 := F11.step0 D8.stp; have q46 := D8.kt q43 rfl; have q47 := D8.kt q44 rfl; have q48 := D8.kt q45 rfl; have o11 := Own.k0 o10 D8.stp; have q49 := D8.dn 2 rfl rfl; clear D8
   exact tn ⟨l.length - ((k+1)), by omega, s11, (k+1), x2, rfl, F12, ok12, (cvi (by (first | rfl | omega | (simp_all; done) | (simp_all; omega))) q49), (cvt (by (rw [curL_succ r l k (by omega)])) q47), q48, q46, (cvo (by (rw [fromTo_succ, curL_succ r l k (by omega)])) (by (rw [fromTo_succ, curL_succ r l k (by omega)])) o11), by omega, rfl⟩
  ·
   refine wp_exit ?_; refine tx ?_; refine tx ?_; refine bx ?_; refine tn ?_; refine wp_seq ?_
   refine rg a7 s5 [(Ty.val x5_0), (Ty.val x5_0)] ok6 ⟨?_, ?_, trivial⟩ ?_
   · intro A B E G H; exact rP (y_move (kp (H 5 rfl) E q19))
   · intro A B E G H d0 d1; exact rP (y_assign (ed d0 rfl rfl rfl))
   intro a14 s12 D9; have ok13 := D9.ok; have F13 := F6.step0 D9.stp; have o12 := Own.k0 o5 D9.stp
   have q50 : At (Ty.val x5_0) s12 a14 (.tmp 4) := D9.done 1
   clear D9; refine tn ?_; refine wp_ret ?_
   obtain ⟨t3, e1, h1, q51⟩ := Own.seal o12 (by decide)
   rw [← e1]
   have F14 := F13.step h1 (by decide)
   have q52 : At (Ty.lst Ty.ints (fromTo r l k)) t3 a14 (.tmp 4) := by have e : a14.eval (.tmp 4) = x5_0 := q50; show Ty.has _ _ _; rw [e]; exact q51
   exact retL1 rfl ok13 F14 (cvt (by (obtain rfl : k = l.length := (by omega); rfl)) q52)


set_option maxRecDepth 100000 in
theorem rUndo_fn (r : List Int) (σ : GW) (v0 : Value) (hv0 : Ty.has (Ty.lst Ty.int r) σ v0) (hr : IsRow r) :
    FnC Try.prog 42 #[v0] σ (Ty.lst Ty.int (undoL r)) := by
 have hln := hr.le
 refine fn_intro Try.func42 rfl Try.ntmps42 (Nat.le_of_ble_eq_true rfl) (fun s0 a0 hle F0 ok0 hargs => ?_)
 have p0 : At (Ty.lst Ty.int r) s0 a0 (.tmp 0) := by have e := hargs 0 _ rfl; show Ty.has _ _ _; rw [e]; exact Ty.up _ hle hv0
 have b1 := sl_le p0
 clear hargs; refine wp_seq ?_
 refine rg a0 s0 [(Ty.val (Value.slice none 0 0))] ok0 ⟨?_, trivial⟩ ?_
 · intro A B E G H; exact rP (y_assign rfl)
 intro a1 s1 D1; have ok1 := D1.ok; have F1 := F0.step0 D1.stp; have q1 := D1.kt p0 rfl; clear D1; refine tn ?_; refine wp_seq ?_
 refine reg (a := a1) (σ := s1) rfl (fun i_ => List.getD [(Ty.pr (Ty.lst Ty.int r)), (Ty.pr (Ty.nat (List.length r))), (Pr.own 11 3 1 (List.length r) (List.map Ty.int (List.replicate (List.length r) 0))), (Pr.own 11 3 1 (List.length r) (List.map Ty.int (List.replicate (List.length r) 0)))] i_ Pr.any) ok1 rfl ⟨?_, ?_, ?_, ?_, trivial⟩ ?_
 · intro A B E G H; exact rP (y_move (kp (H 0 rfl) E q1))
 · intro A B E G H d0; exact rP (y_len Try.underlying23 (ed d0 rfl rfl rfl))
 · intro A B E G H d0 d1
   have e1 := ed d0 rfl rfl rfl
   exact rP ((y_make (k := 11) (T := Ty.int 0) (n := (List.length r)) Try.underlying23 Try.inf3 rfl (fun _ => rfl) e1 e1 (by omega) (by omega)).mono (fun _ _ h => cvo (by simp) (by simp) h))
 · intro A B E G H d0 d1 d2 d3
   have e2 : (Pr.own 11 3 1 (List.length r) (List.map Ty.int (List.replicate (List.length r) 0))).has B (A.eval (.tmp 7)) := d0 rfl
   exact rP (y_assign e2)
 intro a2 s2 D2; have ok2 := D2.ok; have F2 := F1.step0 D2.stp; have q2 := D2.kt q1 rfl
 have q3 : (Pr.own 11 3 1 (List.length r) (List.map Ty.int (List.replicate (List.length r) 0))).has s2 (a2.eval (.tmp 3)) := D2.done 3
 clear D2; refine tn ?_; refine wp_seq ?_; refine wp_seq ?_
 refine rg a2 s2 [(Ty.int (0 : Int))] ok2 ⟨?_, trivial⟩ ?_
 · intro A B E G H; exact rP (y_assign rfl)
 intro a3 s3 D3; have ok3 := D3.ok; have F3 := F2.step0 D3.stp; have q4 := D3.kt q2 rfl
 have q5 : (Pr.own 11 3 1 (List.length r) (List.map Ty.int (List.replicate (List.length r) 0))).has s3 (a3.eval (.tmp 3)) := D3.ko q3 rfl
 have q6 := D3.dn 0 rfl rfl; clear D3; refine tn ?_; refine wp_block ?_
 refine loop (fun n1 a4 w1 => ∃ (t1 : GW) (k : Nat), t1.w = w1 ∧ From s0 t1 ∧ Ok 22 a4 ∧ (Pr.own 11 3 1 (List.length (undoTo r k)) (List.map Ty.int (undoTo r k))).has t1 (a4.eval (.tmp 3)) ∧ At (Ty.nat k) t1 a4 (.tmp 4) ∧ At (Ty.lst Ty.int r) t1 a4 (.tmp 0) ∧ (k ≤ r.length) ∧ n1 = r.length - k) (r.length - (0)) ?_ ?_
 ·
  exact ⟨s3, 0, rfl, F3, ok3, (cvo (by (simp [undoTo_zero])) (by (simp [undoTo_zero])) q5), (cvi (by (first | rfl | omega | (simp_all; done) | (simp_all; omega))) q6), q4, by omega, rfl⟩
 ·
  rintro n2 a5 w2 ⟨t2, k, rfl, F4, ok4, q7, q8, q9, hk, rfl⟩
  have hp := undoTo_len r k
  refine wp_seq ?_; refine wp_seq ?_
  refine reg (a := a5) (σ := t2) rfl (fun i_ => List.getD [(Ty.pr (Ty.nat k)), (Ty.pr (Ty.lst Ty.int r)), (Ty.pr (Ty.nat (List.length r))), (Ty.pr (Ty.bool (decide (((k : Nat) : Int) < (((List.length r) : Nat) : Int)))))] i_ Pr.any) ok4 rfl ⟨?_, ?_, ?_, ?_, trivial⟩ ?_
  · intro A B E G H; exact rP (y_move (kp (H 4 rfl) E q8))
  · intro A B E G H; exact rP (y_move (kp (H 0 rfl) E q9))
  · intro A B E G H d0; exact rP (y_len Try.underlying23 (ed d0 rfl rfl rfl))
  · intro A B E G H d0 d1; exact rP (y_lss (ed d0 rfl rfl rfl) (ed d1 rfl rfl rfl))
  intro a6 s4 D4; have ok5 := D4.ok; have F5 := F4.step0 D4.stp
  have q10 : (Pr.own 11 3 1 (List.length (undoTo r k)) (List.map Ty.int (undoTo r k))).has s4 (a6.eval (.tmp 3)) := D4.ko q7 rfl
  have q11 := D4.kt q8 rfl; have q12 := D4.kt q9 rfl; have q13 := D4.dn 3 rfl rfl; clear D4; refine tn ?_
  refine cond_p (p := (((k : Nat) : Int) < (((List.length r) : Nat) : Int))) q13 (fun c1 => ?_) (fun c1 => ?_)
  ·
   have hq := hr.at (i := k) (by omega)
   refine wp_skip ?_; refine tn ?_; refine wp_seq ?_; refine wp_block ?_
   refine reg2 (a := a6) (σ := s4) rfl 7 (fun i_ => List.getD [(Ty.pr (Ty.val (a6.eval (.tmp 3)))), (Ty.pr (Ty.lst Ty.int r)), (Ty.pr (Ty.nat k)), (Ty.pr (Ty.ref [(Ty.int (r.getD k 0))])), (Ty.pr (Ty.int (r.getD k 0))), (Ty.pr (Ty.nat k)), (Ty.pr (Ty.val (cellPtr (a6.eval (.tmp 3)) ((r.getD k 0)).toNat)))] i_ Pr.any) ok5 rfl (by decide) rfl ⟨?_, ?_, ?_, ?_, ?_, ?_, ?_, trivial⟩ ?_
   · intro A B E G H; exact rP (y_move (H 3 rfl))
   · intro A B E G H; exact rP (y_move (kp (H 0 rfl) E q12))
   · intro A B E G H; exact rP (y_move (kp (H 4 rfl) E q11))
   · intro A B E G H d0 d1; exact rP (y_index1 Try.underlying23 Try.inf3 (ed d0 rfl rfl rfl) (ed d1 rfl rfl rfl) (by omega) (lst_get Ty.int r 0 k (by omega)))
   · intro A B E G H d0; exact rP (y_load Try.underlying3 rfl (ed d0 rfl rfl rfl) rfl)
   · intro A B E G H; exact rP (y_move (kp (H 4 rfl) E q11))
   · intro A B E G H d0 d1 d2 d3 d4 d5 d6 d7; exact rP (own_index1 (i := (r.getD k 0)) Try.underlying23 Try.inf3 ((Pr.own 11 3 1 (List.length (undoTo r k)) (List.map Ty.int (undoTo r k))).up E q10) (ed d0 rfl rfl rfl) (ed d1 rfl rfl rfl) (by omega) (by omega))
   intro a7 s5 D5; have ok6 := D5.ok; have F6 := F5.step0 D5.stp; have q14 := (Pr.own 11 3 1 (List.length (undoTo r k)) (List.map Ty.int (undoTo r k))).up D5.stp q10
   have q15 : a7.eval (.tmp 3) = a6.eval (.tmp 3) := D5.same 3 rfl
   have q16 := D5.kt q11 rfl; have q17 := D5.kt q12 rfl; have q18 := D5.dn 5 (by decide) rfl rfl; have q19 := D5.dn 6 (by decide) rfl rfl; clear D5
   refine tail_step0 (m := 11) (R := (fun _ τ => Own τ 11 3 1 (a6.eval (.tmp 3)) (List.length (undoTo r k)) ((List.map Ty.int (undoTo r k)).set ((r.getD k 0)).toNat (Ty.nat k)))) rfl rfl (m_store Try.inf3 (by decide) q14 q19 (by simp only [List.length_map, List.length_set]; omega) q18 (one_val rfl)) (fun v1 s6 hs1 r1 => ?_)
   have F7 := F6.step hs1 (by decide)
   have q20 : At (Ty.nat k) s6 a7 (.tmp 4) := kpm hs1 (by decide) rfl q16
   have q21 : At (Ty.lst Ty.int r) s6 a7 (.tmp 0) := kpm hs1 (by decide) rfl q17
   have q22 : At (Ty.nat k) s6 a7 (.tmp 19) := kpm hs1 (by decide) rfl q18
   have q23 : (Pr.own 11 3 1 (List.length ((undoTo r k).set ((r.getD k 0)).toNat ((k : Nat) : Int))) (List.map Ty.int ((undoTo r k).set ((r.getD k 0)).toNat ((k : Nat) : Int)))).has s6 (a6.eval (.tmp 3)) := (cvo (by simp) (by simp) r1)
   refine wpList_nil ?_
   have q24 : (Pr.own 11 3 1 (List.length ((undoTo r k).set ((r.getD k 0)).toNat ((k : Nat) : Int))) (List.map Ty.int ((undoTo r k).set ((r.getD k 0)).toNat ((k : Nat) : Int)))).has s6 (a7.eval (.tmp 3)) := al q15 q23
   refine bn ?_; refine tn ?_
   refine rg a7 s6 [(Ty.nat k), (Ty.int (((k : Nat) : Int) + (1 : Int))), (Ty.int (((k : Nat) : Int) + (1 : Int)))] ok6 ⟨?_, ?_, ?_, trivial⟩ ?_
   · intro A B E G H; exact rP (y_move (kp (H 4 rfl) E q20))
   · intro A B E G H d0; exact rP (y_add (ed d0 rfl rfl rfl) rfl (w64 (by omega) (by omega)))
   · intro A B E G H d0 d1 d2; exact rP (y_assign (ed d0 rfl rfl rfl))
   intro a9 s7 D6; have ok8 := D6.ok; have F8 := F7.step0 D6.stp
   have q25 : (Pr.own 11 3 1 (List.length ((undoTo r k).set ((r.getD k 0)).toNat ((k : Nat) : Int))) (List.map Ty.int ((undoTo r k).set ((r.getD k 0)).toNat ((k : Nat) : Int)))).has s7 (a9.eval (.tmp 3)) := D6.ko q24 rfl
   have q26 := D6.kt q21 rfl; have q27 := D6.dn 2 rfl rfl; clear D6
   exact tn ⟨r.length - ((k+1)), by omega, s7, (k+1), rfl, F8, ok8, (cvo (by (rw [undoTo_step r k hr (by omega)])) (by (rw [undoTo_step r k hr (by omega)])) q25), (cvi (by (first | rfl | omega | (simp_all; done) | (simp_all; omega))) q27), q26, by omega, rfl⟩
  ·
   refine wp_exit ?_; refine tx ?_; refine tx ?_; refine bx ?_; refine tn ?_; refine wp_seq ?_
   refine rg a6 s4 [(Ty.val (a6.eval (.tmp 3))), (Ty.val (a6.eval (.tmp 3)))] ok5 ⟨?_, ?_, trivial⟩ ?_
   · intro A B E G H; exact rP (y_move (H 3 rfl))
   · intro A B E G H d0 d1; exact rP (y_assign (ed d0 rfl rfl rfl))
   intro a10 s8 D7; have ok9 := D7.ok; have F9 := F5.step0 D7.stp
   have q28 : (Pr.own 11 3 1 (List.length (undoTo r k)) (List.map Ty.int (undoTo r k))).has s8 (a10.eval (.tmp 2)) := al (show _ = _ from D7.done 1) ((Pr.own 11 3 1 (List.length (undoTo r k)) (List.map Ty.int (undoTo r k))).up D7.stp q10)
   clear D7; refine tn ?_; refine wp_ret ?_
   obtain ⟨t3, e1, h1, q29⟩ := Own.seal q28 (by decide)
   rw [← e1]
   have F10 := F9.step h1 (by decide)
   exact ret1 rfl ok9 F10 (cvt (by (obtain rfl : k = r.length := (by omega); rw [undoTo_all r hr])) q29)


set_option maxHeartbeats 4000000 in
set_option maxRecDepth 100000 in
theorem rFact_fn : ∀ (m : Nat) (n : Nat) (σ : GW)  (v0 : Value) (hv0 : Ty.has (Ty.nat n) σ v0)  (hm : m = n) (hn : n ≤ 12), FnC Try.prog 34 #[v0] σ (Ty.nat (fct n)) := by
 intro m
 induction m using Nat.strongRecOn with
 | _ m ih =>
 intro n σ v0 hv0 hm hn
 refine fn_intro0 Try.func34 rfl Try.ntmps34 (Nat.le_of_ble_eq_true rfl) (fun s0 a0 hle F0 ok0 hargs => ?_)
 have p0 : At (Ty.nat n) s0 a0 (.tmp 0) := by have e := hargs 0 _ rfl; show Ty.has _ _ _; rw [e]; exact Ty.up _ hle hv0
 clear hargs; refine wp_seq ?_
 refine rg a0 s0 [(Ty.int (0 : Int))] ok0 ⟨?_, trivial⟩ ?_
 · intro A B E G H; exact rP (y_assign rfl)
 intro a1 s1 D1; have ok1 := D1.ok; have F1 := F0.step0 D1.stp; have q1 := D1.kt p0 rfl; clear D1; refine tn ?_; refine wp_seq ?_; refine wp_seq ?_
 refine rg a1 s1 [(Ty.nat n), (Ty.bool (decide (((n : Nat) : Int) < (2 : Int))))] ok1 ⟨?_, ?_, trivial⟩ ?_
 · intro A B E G H; exact rP (y_move (kp (H 0 rfl) E q1))
 · intro A B E G H d0; exact rP (y_lss (ed d0 rfl rfl rfl) rfl)
 intro a2 s2 D2; have ok2 := D2.ok; have F2 := F1.step0 D2.stp; have q2 := D2.kt q1 rfl; have q3 := D2.dn 1 rfl rfl; clear D2; refine tn ?_
 refine cond_p (p := (((n : Nat) : Int) < (2 : Int))) q3 (fun c1 => ?_) (fun c1 => ?_)
 ·
  refine wp_seq ?_
  refine rg a2 s2 [(Ty.int (1 : Int))] ok2 ⟨?_, trivial⟩ ?_
  · intro A B E G H; exact rP (y_assign rfl)
  intro a3 s3 D3; have ok3 := D3.ok; have F3 := F2.step0 D3.stp; have q4 := D3.dn 0 rfl rfl; clear D3; refine tn ?_; refine wp_ret ?_; refine tr ?_
  exact retL1 rfl ok3 F3 (cvi (by (rw [fct_small (by omega)]; rfl)) q4)
 ·
  have hm2 : ((n : Nat) : Int) * ((fct (n - 1) : Nat) : Int) ≤ 479001600 ∧ 0 ≤ ((n : Nat) : Int) * ((fct (n - 1) : Nat) : Int) := (by have h1 := fct_le12 hn; have h2 := fct_rec (n := n) (by omega); rw [← Int.natCast_mul]; omega)
  refine wp_skip ?_; refine tn ?_; refine wp_seq ?_
  refine rg a2 s2 [(Ty.nat n), (Ty.nat n), (Ty.nat (n - 1)), (Ty.nat (fct ((n - 1)))), (Ty.nat (n * (fct ((n - 1))))), (Ty.nat (n * (fct ((n - 1)))))] ok2 ⟨?_, ?_, ?_, ?_, ?_, ?_, trivial⟩ ?_
  · intro A B E G H; exact rP (y_move (kp (H 0 rfl) E q2))
  · intro A B E G H; exact rP (y_move (kp (H 0 rfl) E q2))
  · intro A B E G H d0; exact rP ((y_sub (ed d0 rfl rfl rfl) rfl (w64 (by omega) (by omega))).mono (fun τ _ h => cvi (σ := τ) (by omega) h))
  · intro A B E G H d0; exact rP (y_call #[A.eval (.tmp 7)] Try.func34 rfl rfl (by simp only [List.map_toArray, List.map_cons, List.map_nil]) (ih (((n - 1))) (by omega) ((n - 1)) _ _ (cvi (σ := B) (by omega) (ed d0 rfl rfl rfl)) (by omega) (by omega)))
  · intro A B E G H d0 d1; exact rP ((y_mul (ed d0 rfl rfl rfl) (ed d1 rfl rfl rfl) (w64 (by omega) (by omega))).mono (fun τ _ h => cvi (σ := τ) (by first | omega | exact (Int.natCast_mul _ _).symm) h))
  · intro A B E G H d0 d1 d2 d3 d4 d5 d6; exact rP (y_assign (ed d0 rfl rfl rfl))
  intro a4 s4 D4; have ok4 := D4.ok; have F4 := F2.step0 D4.stp; have q5 := D4.dn 5 rfl rfl; clear D4; refine tn ?_; refine wp_ret ?_
  exact retL1 rfl ok4 F4 (cvi (by (rw [fct_rec (by omega)])) q5)


set_option maxHeartbeats 4000000 in
set_option maxRecDepth 100000 in
theorem rRank_fn (r : List Int) (σ : GW)  (v0 : Value) (hv0 : Ty.has (Ty.lst Ty.int r) σ v0)  (hr : IsRow r) :
    FnC Try.prog 41 #[v0] σ (Ty.nat (rankL r)) := by
 have hln := hr.le
 refine fn_intro0 Try.func41 rfl Try.ntmps41 (Nat.le_of_ble_eq_true rfl) (fun s0 a0 hle F0 ok0 hargs => ?_)
 have p0 : At (Ty.lst Ty.int r) s0 a0 (.tmp 0) := by have e := hargs 0 _ rfl; show Ty.has _ _ _; rw [e]; exact Ty.up _ hle hv0
 have b1 := sl_le p0
 clear hargs; refine wp_seq ?_
 refine rg a0 s0 [(Ty.int (0 : Int))] ok0 ⟨?_, trivial⟩ ?_
 · intro A B E G H; exact rP (y_assign rfl)
 intro a1 s1 D1; have ok1 := D1.ok; have F1 := F0.step0 D1.stp; have q1 := D1.kt p0 rfl; clear D1; refine tn ?_; refine wp_seq ?_
 refine rg a1 s1 [(Ty.int (0 : Int))] ok1 ⟨?_, trivial⟩ ?_
 · intro A B E G H; exact rP (y_assign rfl)
 intro a2 s2 D2; have ok2 := D2.ok; have F2 := F1.step0 D2.stp; have q2 := D2.kt q1 rfl; have q3 := D2.dn 0 rfl rfl; clear D2; refine tn ?_; refine wp_seq ?_; refine wp_seq ?_
 refine rg a2 s2 [(Ty.int (0 : Int))] ok2 ⟨?_, trivial⟩ ?_
 · intro A B E G H; exact rP (y_assign rfl)
 intro a3 s3 D3; have ok3 := D3.ok; have F3 := F2.step0 D3.stp; have q4 := D3.kt q2 rfl; have q5 := D3.kt q3 rfl; have q6 := D3.dn 0 rfl rfl; clear D3; refine tn ?_; refine wp_block ?_
 refine loop (fun n1 a4 w1 => ∃ (t1 : GW) (i : Nat) (q : Nat), t1.w = w1 ∧ FromL [] s0 t1 ∧ Ok 44 a4 ∧ At (Ty.nat i) t1 a4 (.tmp 4) ∧ At (Ty.nat q) t1 a4 (.tmp 3) ∧ At (Ty.lst Ty.int r) t1 a4 (.tmp 0) ∧ (i ≤ r.length) ∧ (q + rankL (r.drop i) = rankL r) ∧ n1 = r.length - i) (r.length - (0)) ?_ ?_
 ·
  exact ⟨s3, 0, 0, rfl, F3, ok3, (cvi (by (first | rfl | omega | (simp_all; done) | (simp_all; omega))) q6), (cvi (by (first | rfl | omega | (simp_all; done) | (simp_all; omega))) q5), q4, by omega, by simp, rfl⟩
 ·
  rintro n2 a5 w2 ⟨t2, i, q, rfl, F4, ok4, q7, q8, q9, hi, hq, rfl⟩
  have hrl := rank_le12 hln
  refine wp_seq ?_; refine wp_seq ?_
  refine reg (a := a5) (σ := t2) rfl (fun i_ => List.getD [(Ty.pr (Ty.nat i)), (Ty.pr (Ty.lst Ty.int r)), (Ty.pr (Ty.nat (List.length r))), (Ty.pr (Ty.bool (decide (((i : Nat) : Int) < (((List.length r) : Nat) : Int)))))] i_ Pr.any) ok4 rfl ⟨?_, ?_, ?_, ?_, trivial⟩ ?_
  · intro A B E G H; exact rP (y_move (kp (H 4 rfl) E q7))
  · intro A B E G H; exact rP (y_move (kp (H 0 rfl) E q9))
  · intro A B E G H d0; exact rP (y_len Try.underlying23 (ed d0 rfl rfl rfl))
  · intro A B E G H d0 d1; exact rP (y_lss (ed d0 rfl rfl rfl) (ed d1 rfl rfl rfl))
  intro a6 s4 D4; have ok5 := D4.ok; have F5 := F4.step0 D4.stp; have q10 := D4.kt q7 rfl; have q11 := D4.kt q8 rfl; have q12 := D4.kt q9 rfl; have q13 := D4.dn 3 rfl rfl; clear D4; refine tn ?_
  refine cond_p (p := (((i : Nat) : Int) < (((List.length r) : Nat) : Int))) q13 (fun c1 => ?_) (fun c1 => ?_)
  ·
   have hmb := rank_mul hln (by omega) hq; have hbd := hr.at (i := i) (by omega)
   refine wp_skip ?_; refine tn ?_; refine wp_seq ?_; refine wp_block ?_; refine wp_seq ?_
   refine rg a6 s4 [(Ty.lst Ty.int r), (Ty.nat i), (Ty.ref [(Ty.int (r.getD i 0))]), (Ty.int (r.getD i 0)), (Ty.int (r.getD i 0))] ok5 ⟨?_, ?_, ?_, ?_, ?_, trivial⟩ ?_
   · intro A B E G H; exact rP (y_move (kp (H 0 rfl) E q12))
   · intro A B E G H; exact rP (y_move (kp (H 4 rfl) E q10))
   · intro A B E G H d0 d1; exact rP (y_index1 Try.underlying23 Try.inf3 (ed d0 rfl rfl rfl) (ed d1 rfl rfl rfl) (by omega) (lst_get Ty.int r 0 i (by omega)))
   · intro A B E G H d0; exact rP (y_load Try.underlying3 rfl (ed d0 rfl rfl rfl) rfl)
   · intro A B E G H d0 d1 d2 d3 d4; exact rP (y_assign (ed d0 rfl rfl rfl))
   intro a7 s5 D5; have ok6 := D5.ok; have F6 := F5.step0 D5.stp; have q14 := D5.kt q10 rfl; have q15 := D5.kt q11 rfl; have q16 := D5.kt q12 rfl; have q17 := D5.dn 4 rfl rfl; clear D5; refine tn ?_; refine wp_seq ?_; refine wp_seq ?_
   refine rg a7 s5 [(Ty.int (0 : Int))] ok6 ⟨?_, trivial⟩ ?_
   · intro A B E G H; exact rP (y_assign rfl)
   intro a8 s6 D6; have ok7 := D6.ok; have F7 := F6.step0 D6.stp; have q18 := D6.kt q14 rfl; have q19 := D6.kt q15 rfl; have q20 := D6.kt q16 rfl; have q21 := D6.kt q17 rfl; have q22 := D6.dn 0 rfl rfl; clear D6; refine tn ?_; refine wp_block ?_
   refine loop (fun n3 a9 w3 => ∃ (t3 : GW) (j : Nat), t3.w = w3 ∧ FromL [] s0 t3 ∧ Ok 44 a9 ∧ At (Ty.nat j) t3 a9 (.tmp 6) ∧ At (Ty.int (r.getD i 0 - ((lessN (r.getD i 0) (r.take j) : Nat) : Int))) t3 a9 (.tmp 5) ∧ At (Ty.nat i) t3 a9 (.tmp 4) ∧ At (Ty.nat q) t3 a9 (.tmp 3) ∧ At (Ty.lst Ty.int r) t3 a9 (.tmp 0) ∧ (j ≤ i) ∧ n3 = i - j) (i - (0)) ?_ ?_
   ·
    exact ⟨s6, 0, rfl, F7, ok7, (cvi (by (first | rfl | omega | (simp_all; done) | (simp_all; omega))) q22), (cvi (by (simp [lessN])) q21), q18, q19, q20, by omega, rfl⟩
   ·
    rintro n4 a10 w4 ⟨t4, j, rfl, F8, ok8, q23, q24, q25, q26, q27, hj, rfl⟩
    have hll := lessN_le (r.getD i 0) (r.take j)
    have htl := List.length_take_le j r
    refine wp_seq ?_; refine wp_seq ?_
    refine reg (a := a10) (σ := t4) rfl (fun i_ => List.getD [(Ty.pr (Ty.nat j)), (Ty.pr (Ty.nat i)), (Ty.pr (Ty.bool (decide (((j : Nat) : Int) < ((i : Nat) : Int)))))] i_ Pr.any) ok8 rfl ⟨?_, ?_, ?_, trivial⟩ ?_
    · intro A B E G H; exact rP (y_move (kp (H 6 rfl) E q23))
    · intro A B E G H; exact rP (y_move (kp (H 4 rfl) E q25))
    · intro A B E G H d0 d1; exact rP (y_lss (ed d0 rfl rfl rfl) (ed d1 rfl rfl rfl))
    intro a11 s7 D7; have ok9 := D7.ok; have F9 := F8.step0 D7.stp; have q28 := D7.kt q23 rfl; have q29 := D7.kt q24 rfl; have q30 := D7.kt q25 rfl; have q31 := D7.kt q26 rfl; have q32 := D7.kt q27 rfl; have q33 := D7.dn 2 rfl rfl; clear D7; refine tn ?_
    refine cond_p (p := (((j : Nat) : Int) < ((i : Nat) : Int))) q33 (fun c2 => ?_) (fun c2 => ?_)
    ·
     refine wp_skip ?_; refine tn ?_; refine wp_seq ?_; refine wp_block ?_; refine wp_seq ?_
     refine rg a11 s7 [(Ty.lst Ty.int r), (Ty.nat j), (Ty.ref [(Ty.int (r.getD j 0))]), (Ty.int (r.getD j 0)), (Ty.lst Ty.int r), (Ty.nat i), (Ty.ref [(Ty.int (r.getD i 0))]), (Ty.int (r.getD i 0)), (Ty.bool (decide ((r.getD j 0) < (r.getD i 0))))] ok9 ⟨?_, ?_, ?_, ?_, ?_, ?_, ?_, ?_, ?_, trivial⟩ ?_
     · intro A B E G H; exact rP (y_move (kp (H 0 rfl) E q32))
     · intro A B E G H; exact rP (y_move (kp (H 6 rfl) E q28))
     · intro A B E G H d0 d1; exact rP (y_index1 Try.underlying23 Try.inf3 (ed d0 rfl rfl rfl) (ed d1 rfl rfl rfl) (by omega) (lst_get Ty.int r 0 j (by omega)))
     · intro A B E G H d0; exact rP (y_load Try.underlying3 rfl (ed d0 rfl rfl rfl) rfl)
     · intro A B E G H; exact rP (y_move (kp (H 0 rfl) E q32))
     · intro A B E G H; exact rP (y_move (kp (H 4 rfl) E q30))
     · intro A B E G H d0 d1; exact rP (y_index1 Try.underlying23 Try.inf3 (ed d0 rfl rfl rfl) (ed d1 rfl rfl rfl) (by omega) (lst_get Ty.int r 0 i (by omega)))
     · intro A B E G H d0; exact rP (y_load Try.underlying3 rfl (ed d0 rfl rfl rfl) rfl)
     · intro A B E G H d0 d1; exact rP (y_lss (ed d0 rfl rfl rfl) (ed d1 rfl rfl rfl))
     intro a12 s8 D8; have ok10 := D8.ok; have F10 := F9.step0 D8.stp; have q34 := D8.kt q28 rfl; have q35 := D8.kt q29 rfl; have q36 := D8.kt q30 rfl; have q37 := D8.kt q31 rfl; have q38 := D8.kt q32 rfl; have q39 := D8.dn 8 rfl rfl; clear D8; refine tn ?_
     refine cond_p (p := ((r.getD j 0) < (r.getD i 0))) q39 (fun c3 => ?_) (fun c3 => ?_)
     ·
      refine rg a12 s8 [(Ty.int (r.getD i 0 - ((lessN (r.getD i 0) (r.take j) : Nat) : Int))), (Ty.int ((r.getD i 0 - ((lessN (r.getD i 0) (r.take j) : Nat) : Int)) - (1 : Int))), (Ty.int ((r.getD i 0 - ((lessN (r.getD i 0) (r.take j) : Nat) : Int)) - (1 : Int)))] ok10 ⟨?_, ?_, ?_, trivial⟩ ?_
      · intro A B E G H; exact rP (y_move (kp (H 5 rfl) E q35))
      · intro A B E G H d0; exact rP (y_sub (ed d0 rfl rfl rfl) rfl (w64 (by omega) (by omega)))
      · intro A B E G H d0 d1 d2; exact rP (y_assign (ed d0 rfl rfl rfl))
      intro a13 s9 D9; have ok11 := D9.ok; have F11 := F10.step0 D9.stp; have q40 := D9.kt q34 rfl; have q41 := D9.kt q36 rfl; have q42 := D9.kt q37 rfl; have q43 := D9.kt q38 rfl; have q44 := D9.dn 2 rfl rfl; clear D9; refine bn ?_; refine tn ?_
      refine rg a13 s9 [(Ty.nat j), (Ty.nat (j + 1)), (Ty.nat (j + 1))] ok11 ⟨?_, ?_, ?_, trivial⟩ ?_
      · intro A B E G H; exact rP (y_move (kp (H 6 rfl) E q40))
      · intro A B E G H d0; exact rP ((y_add (ed d0 rfl rfl rfl) rfl (w64 (by omega) (by omega))).mono (fun τ _ h => cvi (σ := τ) (by first | omega | exact (Int.natCast_mul _ _).symm) h))
      · intro A B E G H d0 d1 d2; exact rP (y_assign (ed d0 rfl rfl rfl))
      intro a14 s10 D10; have ok12 := D10.ok; have F12 := F11.step0 D10.stp; have q45 := D10.kt q41 rfl; have q46 := D10.kt q42 rfl; have q47 := D10.kt q43 rfl; have q48 := D10.kt q44 rfl; have q49 := D10.dn 2 rfl rfl; clear D10
      exact tn ⟨i - ((j+1)), by omega, s10, (j+1), rfl, F12, ok12, (cvi (by (first | rfl | omega | (simp_all; done) | (simp_all; omega))) q49), (cvi (by (rw [lessN_snoc _ _ _ (by omega), if_pos (by assumption)]; omega)) q48), q45, q46, q47, by omega, rfl⟩
     ·
      refine wp_skip ?_; refine bn ?_; refine tn ?_
      refine rg a12 s8 [(Ty.nat j), (Ty.nat (j + 1)), (Ty.nat (j + 1))] ok10 ⟨?_, ?_, ?_, trivial⟩ ?_
      · intro A B E G H; exact rP (y_move (kp (H 6 rfl) E q34))
      · intro A B E G H d0; exact rP ((y_add (ed d0 rfl rfl rfl) rfl (w64 (by omega) (by omega))).mono (fun τ _ h => cvi (σ := τ) (by first | omega | exact (Int.natCast_mul _ _).symm) h))
      · intro A B E G H d0 d1 d2; exact rP (y_assign (ed d0 rfl rfl rfl))
      intro a15 s11 D11; have ok13 := D11.ok; have F13 := F10.step0 D11.stp; have q50 := D11.kt q35 rfl; have q51 := D11.kt q36 rfl; have q52 := D11.kt q37 rfl; have q53 := D11.kt q38 rfl; have q54 := D11.dn 2 rfl rfl; clear D11
      exact tn ⟨i - ((j+1)), by omega, s11, (j+1), rfl, F13, ok13, (cvi (by (first | rfl | omega | (simp_all; done) | (simp_all; omega))) q54), (cvi (by (rw [lessN_snoc _ _ _ (by omega), if_neg (by assumption)]; rfl)) q50), q51, q52, q53, by omega, rfl⟩
    ·
     have q55 : At (Ty.nat (lessN (r.getD i 0) (r.drop (i + 1)))) s7 a11 (.tmp 5) := cvt (T := (Ty.int (r.getD i 0 - ((lessN (r.getD i 0) (r.take j) : Nat) : Int)))) (U := (Ty.nat (lessN (r.getD i 0) (r.drop (i + 1))))) (by have e : j = i := (by omega); rw [e]; exact congrArg Ty.int (less_after hr (by omega))) q29
     refine wp_exit ?_; refine tx ?_; refine tx ?_; refine bx ?_; refine tn ?_
     refine rg a11 s7 [(Ty.nat q), (Ty.nat (lessN (r.getD i 0) (r.drop (i + 1)))), (Ty.lst Ty.int r), (Ty.nat (List.length r)), (Ty.nat ((List.length r) - 1)), (Ty.nat i), (Ty.nat (((List.length r) - 1) - i)), (Ty.nat (fct ((((List.length r) - 1) - i)))), (Ty.nat ((lessN (r.getD i 0) (r.drop (i + 1))) * (fct ((((List.length r) - 1) - i))))), (Ty.nat (q + ((lessN (r.getD i 0) (r.drop (i + 1))) * (fct ((((List.length r) - 1) - i)))))), (Ty.nat (q + ((lessN (r.getD i 0) (r.drop (i + 1))) * (fct ((((List.length r) - 1) - i))))))] ok9 ⟨?_, ?_, ?_, ?_, ?_, ?_, ?_, ?_, ?_, ?_, ?_, trivial⟩ ?_
     · intro A B E G H; exact rP (y_move (kp (H 3 rfl) E q31))
     · intro A B E G H; exact rP (y_move (kp (H 5 rfl) E q55))
     · intro A B E G H; exact rP (y_move (kp (H 0 rfl) E q32))
     · intro A B E G H d0; exact rP (y_len Try.underlying23 (ed d0 rfl rfl rfl))
     · intro A B E G H d0; exact rP ((y_sub (ed d0 rfl rfl rfl) rfl (w64 (by omega) (by omega))).mono (fun τ _ h => cvi (σ := τ) (by omega) h))
     · intro A B E G H; exact rP (y_move (kp (H 4 rfl) E q30))
     · intro A B E G H d0 d1; exact rP ((y_sub (ed d0 rfl rfl rfl) (ed d1 rfl rfl rfl) (w64 (by omega) (by omega))).mono (fun τ _ h => cvi (σ := τ) (by omega) h))
     · intro A B E G H d0; exact rP (y_call #[A.eval (.tmp 39)] Try.func34 rfl rfl (by simp only [List.map_toArray, List.map_cons, List.map_nil]) (rFact_fn (((((List.length r) - 1) - i))) ((((List.length r) - 1) - i)) _ _ (cvi (σ := B) (by omega) (ed d0 rfl rfl rfl)) (by omega) (by omega)))
     · intro A B E G H d0 d1; exact rP ((y_mul (ed d0 rfl rfl rfl) (ed d1 rfl rfl rfl) (w64 (by omega) (by omega))).mono (fun τ _ h => cvi (σ := τ) (by first | omega | exact (Int.natCast_mul _ _).symm) h))
     · intro A B E G H d0 d1; exact rP ((y_add (ed d0 rfl rfl rfl) (ed d1 rfl rfl rfl) (w64 (by omega) (by omega))).mono (fun τ _ h => cvi (σ := τ) (by first | omega | exact (Int.natCast_mul _ _).symm) h))
     · intro A B E G H d0 d1 d2 d3 d4 d5 d6 d7 d8 d9 d10 d11; exact rP (y_assign (ed d0 rfl rfl rfl))
     intro a16 s12 D12; have ok14 := D12.ok; have F14 := F9.step0 D12.stp; have q56 := D12.kt q30 rfl; have q57 := D12.kt q32 rfl; have q58 := D12.dn 10 rfl rfl; clear D12; refine bn ?_; refine tn ?_
     refine rg a16 s12 [(Ty.nat i), (Ty.nat (i + 1)), (Ty.nat (i + 1))] ok14 ⟨?_, ?_, ?_, trivial⟩ ?_
     · intro A B E G H; exact rP (y_move (kp (H 4 rfl) E q56))
     · intro A B E G H d0; exact rP ((y_add (ed d0 rfl rfl rfl) rfl (w64 (by omega) (by omega))).mono (fun τ _ h => cvi (σ := τ) (by first | omega | exact (Int.natCast_mul _ _).symm) h))
     · intro A B E G H d0 d1 d2; exact rP (y_assign (ed d0 rfl rfl rfl))
     intro a17 s13 D13; have ok15 := D13.ok; have F15 := F14.step0 D13.stp; have q59 := D13.kt q57 rfl; have q60 := D13.kt q58 rfl; have q61 := D13.dn 2 rfl rfl; clear D13
     exact tn ⟨r.length - ((i+1)), by omega, s13, (i+1), (q + lessN (r.getD i 0) (r.drop (i + 1)) * fct (r.length - 1 - i)), rfl, F15, ok15, (cvi (by (first | rfl | omega | (simp_all; done) | (simp_all; omega))) q61), (cvi (by (first | rfl | omega | (simp_all; done) | (simp_all; omega))) q60), q59, by omega, rank_step' (by omega) hq, rfl⟩
  ·
   refine wp_exit ?_; refine tx ?_; refine tx ?_; refine bx ?_; refine tn ?_; refine wp_seq ?_
   refine rg a6 s4 [(Ty.nat q), (Ty.nat q)] ok5 ⟨?_, ?_, trivial⟩ ?_
   · intro A B E G H; exact rP (y_move (kp (H 3 rfl) E q11))
   · intro A B E G H d0 d1; exact rP (y_assign (ed d0 rfl rfl rfl))
   intro a18 s14 D14; have ok16 := D14.ok; have F16 := F5.step0 D14.stp; have q62 := D14.dn 1 rfl rfl; clear D14; refine tn ?_; refine wp_ret ?_
   exact retL1 rfl ok16 F16 (cvi (by (obtain rfl : i = r.length := (by omega); exact congrArg _ (by rw [List.drop_length] at hq; exact hq))) q62)


set_option maxHeartbeats 4000000 in
set_option maxRecDepth 100000 in
theorem rBelow_fn (a : List Int) (b : List Int) (σ : GW)  (v0 v1 : Value) (hv0 : Ty.has (Ty.lst Ty.int a) σ v0) (hv1 : Ty.has (Ty.lst Ty.int b) σ v1)   :
    FnC Try.prog 39 #[v0, v1] σ (Ty.bool (belowL a b)) := by
 refine fn_intro0 Try.func39 rfl Try.ntmps39 (Nat.le_of_ble_eq_true rfl) (fun s0 a0 hle F0 ok0 hargs => ?_)
 have p0 : At (Ty.lst Ty.int a) s0 a0 (.tmp 0) := by have e := hargs 0 _ rfl; show Ty.has _ _ _; rw [e]; exact Ty.up _ hle hv0
 have b1 := sl_le p0
 have p1 : At (Ty.lst Ty.int b) s0 a0 (.tmp 1) := by have e := hargs 1 _ rfl; show Ty.has _ _ _; rw [e]; exact Ty.up _ hle hv1
 have b2 := sl_le p1
 clear hargs; refine wp_seq ?_
 refine rg a0 s0 [(Ty.bool false)] ok0 ⟨?_, trivial⟩ ?_
 · intro A B E G H; exact rP (y_assign rfl)
 intro a1 s1 D1; have ok1 := D1.ok; have F1 := F0.step0 D1.stp; have q1 := D1.kt p0 rfl; have q2 := D1.kt p1 rfl; clear D1; refine tn ?_; refine wp_seq ?_; refine wp_seq ?_
 refine rg a1 s1 [(Ty.int (0 : Int))] ok1 ⟨?_, trivial⟩ ?_
 · intro A B E G H; exact rP (y_assign rfl)
 intro a2 s2 D2; have ok2 := D2.ok; have F2 := F1.step0 D2.stp; have q3 := D2.kt q1 rfl; have q4 := D2.kt q2 rfl; have q5 := D2.dn 0 rfl rfl; clear D2; refine tn ?_; refine wp_block ?_
 refine loop (fun n1 a3 w1 => ∃ (t1 : GW) (i : Nat), t1.w = w1 ∧ FromL [] s0 t1 ∧ Ok 41 a3 ∧ At (Ty.nat i) t1 a3 (.tmp 5) ∧ At (Ty.lst Ty.int a) t1 a3 (.tmp 0) ∧ At (Ty.lst Ty.int b) t1 a3 (.tmp 1) ∧ (i ≤ a.length) ∧ (i ≤ b.length) ∧ (belowL (a.drop i) (b.drop i) = belowL a b) ∧ n1 = a.length - i) (a.length - (0)) ?_ ?_
 ·
  exact ⟨s2, 0, rfl, F2, ok2, (cvi (by (first | rfl | omega | (simp_all; done) | (simp_all; omega))) q5), q3, q4, by omega, by omega, rfl, rfl⟩
 ·
  rintro n2 a4 w2 ⟨t2, i, rfl, F3, ok3, q6, q7, q8, hi, hi2, hb, rfl⟩
  refine wp_seq ?_; refine wp_seq ?_
  refine reg (a := a4) (σ := t2) rfl (fun i_ => List.getD [(Ty.pr (Ty.nat i)), (Ty.pr (Ty.lst Ty.int a)), (Ty.pr (Ty.nat (List.length a))), (Ty.pr (Ty.bool (decide (((i : Nat) : Int) < (((List.length a) : Nat) : Int))))), (Ty.pr (Ty.bool (decide (((i : Nat) : Int) < (((List.length a) : Nat) : Int))))), (Ty.pr (Ty.grd ((decide (((i : Nat) : Int) < (((List.length a) : Nat) : Int))) = true) (Ty.nat i))), (Ty.pr (Ty.grd ((decide (((i : Nat) : Int) < (((List.length a) : Nat) : Int))) = true) (Ty.lst Ty.int b))), (Ty.pr (Ty.grd ((decide (((i : Nat) : Int) < (((List.length a) : Nat) : Int))) = true) (Ty.nat (List.length b)))), (Ty.pr (Ty.grd ((decide (((i : Nat) : Int) < (((List.length a) : Nat) : Int))) = true) (Ty.bool (decide (((i : Nat) : Int) < (((List.length b) : Nat) : Int)))))), (Ty.pr (Ty.bool ((decide (((i : Nat) : Int) < (((List.length a) : Nat) : Int))) && (decide (((i : Nat) : Int) < (((List.length b) : Nat) : Int))))))] i_ Pr.any) ok3 rfl ⟨?_, ?_, ?_, ?_, ?_, ?_, ?_, ?_, ?_, ?_, trivial⟩ ?_
  · intro A B E G H; exact rP (y_move (kp (H 5 rfl) E q6))
  · intro A B E G H; exact rP (y_move (kp (H 0 rfl) E q7))
  · intro A B E G H d0; exact rP (y_len Try.underlying23 (ed d0 rfl rfl rfl))
  · intro A B E G H d0 d1; exact rP (y_lss (ed d0 rfl rfl rfl) (ed d1 rfl rfl rfl))
  · intro A B E G H d0; exact rP (y_move (ed d0 rfl rfl rfl))
  · intro A B E G H d0
    refine run_guard G rfl rfl (by decide) (ed d0 rfl rfl rfl) (fun hg => ?_)
    have hp := of_decide_eq_true hg
    exact y_move (kp (H 5 rfl) E q6)
  · intro A B E G H d0
    refine run_guard G rfl rfl (by decide) (ed d0 rfl rfl rfl) (fun hg => ?_)
    have hp := of_decide_eq_true hg
    exact y_move (kp (H 1 rfl) E q8)
  · intro A B E G H d0 d1
    refine run_guard G rfl rfl (by decide) (ed d1 rfl rfl rfl) (fun hg => ?_)
    have hp := of_decide_eq_true hg
    exact y_len Try.underlying23 ((ed d0 rfl rfl rfl).1 hg)
  · intro A B E G H d0 d1 d2
    refine run_guard G rfl rfl (by decide) (ed d2 rfl rfl rfl) (fun hg => ?_)
    have hp := of_decide_eq_true hg
    exact y_lss ((ed d0 rfl rfl rfl).1 hg) ((ed d1 rfl rfl rfl).1 hg)
  · intro A B E G H d0 d1; exact rP (y_pick_and (ed d0 rfl rfl rfl) (ed d1 rfl rfl rfl) rfl)
  intro a5 s3 D3; have ok4 := D3.ok; have F4 := F3.step0 D3.stp; have q9 := D3.kt q6 rfl; have q10 := D3.kt q7 rfl; have q11 := D3.kt q8 rfl; have q12 := D3.dn 9 rfl rfl; clear D3; refine tn ?_
  refine cond_t q12 (fun c1 => ?_) (fun c1 => ?_)
  ·
   obtain ⟨d1, d2⟩ := Bool.and_eq_true_iff.mp c1
   replace d1 := of_decide_eq_true d1
   replace d2 := of_decide_eq_true d2
   simp only [Bool.and_eq_true, decide_eq_true_eq] at c1
   refine wp_skip ?_; refine tn ?_; refine wp_seq ?_; refine wp_block ?_; refine wp_seq ?_
   refine rg a5 s3 [(Ty.lst Ty.int a), (Ty.nat i), (Ty.ref [(Ty.int (a.getD i 0))]), (Ty.int (a.getD i 0)), (Ty.lst Ty.int b), (Ty.nat i), (Ty.ref [(Ty.int (b.getD i 0))]), (Ty.int (b.getD i 0)), (Ty.bool (decide ((a.getD i 0) ≠ (b.getD i 0))))] ok4 ⟨?_, ?_, ?_, ?_, ?_, ?_, ?_, ?_, ?_, trivial⟩ ?_
   · intro A B E G H; exact rP (y_move (kp (H 0 rfl) E q10))
   · intro A B E G H; exact rP (y_move (kp (H 5 rfl) E q9))
   · intro A B E G H d0 d1; exact rP (y_index1 Try.underlying23 Try.inf3 (ed d0 rfl rfl rfl) (ed d1 rfl rfl rfl) (by omega) (lst_get Ty.int a 0 i (by omega)))
   · intro A B E G H d0; exact rP (y_load Try.underlying3 rfl (ed d0 rfl rfl rfl) rfl)
   · intro A B E G H; exact rP (y_move (kp (H 1 rfl) E q11))
   · intro A B E G H; exact rP (y_move (kp (H 5 rfl) E q9))
   · intro A B E G H d0 d1; exact rP (y_index1 Try.underlying23 Try.inf3 (ed d0 rfl rfl rfl) (ed d1 rfl rfl rfl) (by omega) (lst_get Ty.int b 0 i (by omega)))
   · intro A B E G H d0; exact rP (y_load Try.underlying3 rfl (ed d0 rfl rfl rfl) rfl)
   · intro A B E G H d0 d1; exact rP (y_neq (ed d0 rfl rfl rfl) (ed d1 rfl rfl rfl))
   intro a6 s4 D4; have ok5 := D4.ok; have F5 := F4.step0 D4.stp; have q13 := D4.kt q9 rfl; have q14 := D4.kt q10 rfl; have q15 := D4.kt q11 rfl; have q16 := D4.dn 8 rfl rfl; clear D4; refine tn ?_
   refine cond_p (p := ((a.getD i 0) ≠ (b.getD i 0))) q16 (fun c2 => ?_) (fun c2 => ?_)
   ·
    refine wp_seq ?_
    refine rg a6 s4 [(Ty.lst Ty.int a), (Ty.nat i), (Ty.ref [(Ty.int (a.getD i 0))]), (Ty.int (a.getD i 0)), (Ty.lst Ty.int b), (Ty.nat i), (Ty.ref [(Ty.int (b.getD i 0))]), (Ty.int (b.getD i 0)), (Ty.bool (decide ((a.getD i 0) < (b.getD i 0)))), (Ty.bool (decide ((a.getD i 0) < (b.getD i 0))))] ok5 ⟨?_, ?_, ?_, ?_, ?_, ?_, ?_, ?_, ?_, ?_, trivial⟩ ?_
    · intro A B E G H; exact rP (y_move (kp (H 0 rfl) E q14))
    · intro A B E G H; exact rP (y_move (kp (H 5 rfl) E q13))
    · intro A B E G H d0 d1; exact rP (y_index1 Try.underlying23 Try.inf3 (ed d0 rfl rfl rfl) (ed d1 rfl rfl rfl) (by omega) (lst_get Ty.int a 0 i (by omega)))
    · intro A B E G H d0; exact rP (y_load Try.underlying3 rfl (ed d0 rfl rfl rfl) rfl)
    · intro A B E G H; exact rP (y_move (kp (H 1 rfl) E q15))
    · intro A B E G H; exact rP (y_move (kp (H 5 rfl) E q13))
    · intro A B E G H d0 d1; exact rP (y_index1 Try.underlying23 Try.inf3 (ed d0 rfl rfl rfl) (ed d1 rfl rfl rfl) (by omega) (lst_get Ty.int b 0 i (by omega)))
    · intro A B E G H d0; exact rP (y_load Try.underlying3 rfl (ed d0 rfl rfl rfl) rfl)
    · intro A B E G H d0 d1; exact rP (y_lss (ed d0 rfl rfl rfl) (ed d1 rfl rfl rfl))
    · intro A B E G H d0 d1 d2 d3 d4 d5 d6 d7 d8 d9; exact rP (y_assign (ed d0 rfl rfl rfl))
    intro a7 s5 D5; have ok6 := D5.ok; have F6 := F5.step0 D5.stp; have q17 := D5.dn 9 rfl rfl; clear D5; refine tn ?_; refine wp_ret ?_; refine br ?_; refine tr ?_; refine tr ?_; refine br ?_; refine tr ?_
    exact retL1 rfl ok6 F6 (cvb (by (exact below_ne hb (by omega) (by omega) (by assumption))) q17)
   ·
    refine wp_skip ?_; refine bn ?_; refine tn ?_
    refine rg a6 s4 [(Ty.nat i), (Ty.int (((i : Nat) : Int) + (1 : Int))), (Ty.int (((i : Nat) : Int) + (1 : Int)))] ok5 ⟨?_, ?_, ?_, trivial⟩ ?_
    · intro A B E G H; exact rP (y_move (kp (H 5 rfl) E q13))
    · intro A B E G H d0; exact rP (y_add (ed d0 rfl rfl rfl) rfl (w64 (by omega) (by omega)))
    · intro A B E G H d0 d1 d2; exact rP (y_assign (ed d0 rfl rfl rfl))
    intro a8 s6 D6; have ok7 := D6.ok; have F7 := F5.step0 D6.stp; have q18 := D6.kt q14 rfl; have q19 := D6.kt q15 rfl; have q20 := D6.dn 2 rfl rfl; clear D6
    exact tn ⟨a.length - ((i+1)), by omega, s6, (i+1), rfl, F7, ok7, (cvi (by (first | rfl | omega | (simp_all; done) | (simp_all; omega))) q20), q18, q19, by omega, by omega, below_step hb (by omega) (by omega) (by assumption), rfl⟩
  ·
   have hc1 : ¬ (i < a.length ∧ i < b.length) := (by intro h; simp only [Bool.and_eq_false_iff, decide_eq_false_iff_not] at c1; omega)
   refine wp_exit ?_; refine tx ?_; refine tx ?_; refine bx ?_; refine tn ?_; refine wp_seq ?_
   refine rg a5 s3 [(Ty.lst Ty.int a), (Ty.nat (List.length a)), (Ty.lst Ty.int b), (Ty.nat (List.length b)), (Ty.bool (decide ((((List.length a) : Nat) : Int) < (((List.length b) : Nat) : Int)))), (Ty.bool (decide ((((List.length a) : Nat) : Int) < (((List.length b) : Nat) : Int))))] ok4 ⟨?_, ?_, ?_, ?_, ?_, ?_, trivial⟩ ?_
   · intro A B E G H; exact rP (y_move (kp (H 0 rfl) E q10))
   · intro A B E G H d0; exact rP (y_len Try.underlying23 (ed d0 rfl rfl rfl))
   · intro A B E G H; exact rP (y_move (kp (H 1 rfl) E q11))
   · intro A B E G H d0; exact rP (y_len Try.underlying23 (ed d0 rfl rfl rfl))
   · intro A B E G H d0 d1; exact rP (y_lss (ed d0 rfl rfl rfl) (ed d1 rfl rfl rfl))
   · intro A B E G H d0 d1 d2 d3 d4 d5; exact rP (y_assign (ed d0 rfl rfl rfl))
   intro a9 s7 D7; have ok8 := D7.ok; have F8 := F4.step0 D7.stp; have q21 := D7.dn 5 rfl rfl; clear D7; refine tn ?_; refine wp_ret ?_
   exact retL1 rfl ok8 F8 (cvb (by (exact below_end hb (by omega) (by omega) hc1)) q21)


end Go.Proofs.Ytbilebfnanlgfaa
