/-  Part 3. -/
import Derived.Test.YtmdaialaphkhfagTopCourseW2
namespace Go.Proofs.Ytmdaialaphkhfag
open Go.KL

set_option maxRecDepth 100000 in
theorem course_fn (nm : ByteArray) (n : Int) (l : List (List Int)) (σ : GW) (v0 : Value) (hv0 : Ty.has (Ty.agg [(Ty.val (Value.string nm)), (Ty.int n), (Ty.lst Ty.ints l)]) σ v0) (hnm : nm.size ≤ 1099511627776) (hn : -9223372036854775808 ≤ n ∧ n ≤ 9223372036854775807) :
    FnC Try.prog 16 #[v0] σ (Ty.tup2 (Ty.lst Ty.ints (if courseMay nm n l = 0 then crs n.toNat l (ordL (headL n.toNat l) * l.length) else [])) (Ty.int (courseMay nm n l))) := by
 refine fn_intro Try.func16 rfl Try.ntmps16 (Nat.le_of_ble_eq_true rfl) (fun s0 a0 hle F0 ok0 hargs => ?_)
 have p0 : At (Ty.agg [(Ty.val (Value.string nm)), (Ty.int n), (Ty.lst Ty.ints l)]) s0 a0 (.tmp 0) := by have e := hargs 0 _ rfl; show Ty.has _ _ _; rw [e]; exact Ty.up _ hle hv0
 clear hargs
 refine wp_seq ?_
 refine reg (a := a0) (σ := s0) rfl (fun i_ => List.getD [(Ty.pr (Ty.ref [(Ty.val (Value.string nm)), (Ty.int n), (Ty.lst Ty.ints l)])), (Ty.pr (Ty.val (Value.slice none 0 0))), (Ty.pr (Ty.int (0 : Int)))] i_ Pr.any) ok0 rfl ⟨?_, ?_, ?_, trivial⟩ ?_
 · intro ax tx hs okx sm
   exact run_plain rfl (y_boxagg (kp (sm 0 rfl) hs p0))
 · intro ax tx hs okx sm
   exact run_plain rfl (y_assign rfl)
 · intro ax tx hs okx sm d0
   have e1 : At (Ty.val (Value.slice none 0 0)) tx ax (.tmp 2) := d0 rfl
   exact run_plain rfl (y_assign rfl)
 intro a1 s1 D1
 have ok1 := D1.ok
 have F1 := F0.step0 D1.stp
 have q1 : At (Ty.ref [(Ty.val (Value.string nm)), (Ty.int n), (Ty.lst Ty.ints l)]) s1 a1 (.tmp 1) := D1.done 0
 clear D1
 refine tn ?_
 refine wp_seq ?_
 refine reg (a := a1) (σ := s1) rfl (fun i_ => List.getD [(Ty.pr (Ty.agg [(Ty.val (Value.string nm)), (Ty.int n), (Ty.lst Ty.ints l)])), (Ty.pr (Ty.tup2 (Ty.lst Ty.ints (if methMay nm n l = 0 then fromL (roundsL n.toNat) l else [])) (Ty.int (methMay nm n l)))), (Ty.pr (Ty.tup2 (Ty.lst Ty.ints (if methMay nm n l = 0 then fromL (roundsL n.toNat) l else [])) (Ty.int (methMay nm n l)))), (Ty.pr (Ty.lst Ty.ints (if methMay nm n l = 0 then fromL (roundsL n.toNat) l else []))), (Ty.pr (Ty.int (methMay nm n l))), (Ty.pr (Ty.lst Ty.ints (if methMay nm n l = 0 then fromL (roundsL n.toNat) l else []))), (Ty.pr (Ty.int (methMay nm n l)))] i_ Pr.any) ok1 rfl ⟨?_, ?_, ?_, ?_, ?_, ?_, ?_, trivial⟩ ?_
 · intro ax tx hs okx sm
   exact run_plain rfl (y_loadagg Try.underlying31 Try.inf31 (kp (sm 1 rfl) hs q1))
 · intro ax tx hs okx sm d0
   have e0 : At (Ty.agg [(Ty.val (Value.string nm)), (Ty.int n), (Ty.lst Ty.ints l)]) tx ax (.tmp 15) := d0 rfl
   exact run_plain rfl (y_call #[ax.eval (.tmp 15)] Try.func11 rfl rfl (by simp only [List.map_toArray, List.map_cons, List.map_nil]) (lead_fn (nm) (n) (l) _ _ e0 (by first | omega | assumption) (by first | omega | assumption)))
 · intro ax tx hs okx sm d0
   have e1 : At (Ty.tup2 (Ty.lst Ty.ints (if methMay nm n l = 0 then fromL (roundsL n.toNat) l else [])) (Ty.int (methMay nm n l))) tx ax (.tmp 16) := d0 rfl
   exact run_plain rfl (y_move e1)
 · intro ax tx hs okx sm d0
   have e2 : At (Ty.tup2 (Ty.lst Ty.ints (if methMay nm n l = 0 then fromL (roundsL n.toNat) l else [])) (Ty.int (methMay nm n l))) tx ax (.tmp 14) := d0 rfl
   exact run_plain rfl (y_ext2_0 e2)
 · intro ax tx hs okx sm d0 d1
   have e2 : At (Ty.tup2 (Ty.lst Ty.ints (if methMay nm n l = 0 then fromL (roundsL n.toNat) l else [])) (Ty.int (methMay nm n l))) tx ax (.tmp 14) := d0 rfl
   exact run_plain rfl (y_ext2_1 e2)
 · intro ax tx hs okx sm d0 d1 d2 d3 d4 d5 d6
   have e3 : At (Ty.lst Ty.ints (if methMay nm n l = 0 then fromL (roundsL n.toNat) l else [])) tx ax (.tmp 17) := d0 rfl
   have e1 : At (Ty.tup2 (Ty.lst Ty.ints (if methMay nm n l = 0 then fromL (roundsL n.toNat) l else [])) (Ty.int (methMay nm n l))) tx ax (.tmp 16) := d1 rfl
   have e0 : At (Ty.agg [(Ty.val (Value.string nm)), (Ty.int n), (Ty.lst Ty.ints l)]) tx ax (.tmp 15) := d2 rfl
   have e2 : At (Ty.tup2 (Ty.lst Ty.ints (if methMay nm n l = 0 then fromL (roundsL n.toNat) l else [])) (Ty.int (methMay nm n l))) tx ax (.tmp 14) := d4 rfl
   exact run_plain rfl (y_assign e3)
 · intro ax tx hs okx sm d0 d1 d2 d3 d4 d5 d6 d7
   have e4 : At (Ty.int (methMay nm n l)) tx ax (.tmp 18) := d0 rfl
   have e5 : At (Ty.lst Ty.ints (if methMay nm n l = 0 then fromL (roundsL n.toNat) l else [])) tx ax (.tmp 4) := d1 rfl
   have e0 : At (Ty.agg [(Ty.val (Value.string nm)), (Ty.int n), (Ty.lst Ty.ints l)]) tx ax (.tmp 15) := d2 rfl
   have e1 : At (Ty.tup2 (Ty.lst Ty.ints (if methMay nm n l = 0 then fromL (roundsL n.toNat) l else [])) (Ty.int (methMay nm n l))) tx ax (.tmp 16) := d3 rfl
   have e2 : At (Ty.tup2 (Ty.lst Ty.ints (if methMay nm n l = 0 then fromL (roundsL n.toNat) l else [])) (Ty.int (methMay nm n l))) tx ax (.tmp 14) := d4 rfl
   have e3 : At (Ty.lst Ty.ints (if methMay nm n l = 0 then fromL (roundsL n.toNat) l else [])) tx ax (.tmp 17) := d5 rfl
   exact run_plain rfl (y_assign e4)
 intro a2 s2 D2
 have ok2 := D2.ok
 have F2 := F1.step0 D2.stp
 have q2 : At (Ty.ref [(Ty.val (Value.string nm)), (Ty.int n), (Ty.lst Ty.ints l)]) s2 a2 (.tmp 1) := D2.kt q1 rfl
 have q3 : At (Ty.lst Ty.ints (if methMay nm n l = 0 then fromL (roundsL n.toNat) l else [])) s2 a2 (.tmp 4) := D2.done 5
 have q4 : At (Ty.int (methMay nm n l)) s2 a2 (.tmp 5) := D2.done 6
 clear D2
 refine tn ?_
 refine wp_seq ?_
 refine wp_seq ?_
 refine reg (a := a2) (σ := s2) rfl (fun i_ => List.getD [(Ty.pr (Ty.int (methMay nm n l))), (Ty.pr (Ty.bool (decide ((methMay nm n l) ≠ (0 : Int)))))] i_ Pr.any) ok2 rfl ⟨?_, ?_, trivial⟩ ?_
 · intro ax tx hs okx sm
   exact run_plain rfl (y_move (kp (sm 5 rfl) hs q4))
 · intro ax tx hs okx sm d0
   have e0 : At (Ty.int (methMay nm n l)) tx ax (.tmp 19) := d0 rfl
   exact run_plain rfl (y_neq e0 rfl)
 intro a3 s3 D3
 have ok3 := D3.ok
 have F3 := F2.step0 D3.stp
 have q5 : At (Ty.ref [(Ty.val (Value.string nm)), (Ty.int n), (Ty.lst Ty.ints l)]) s3 a3 (.tmp 1) := D3.kt q2 rfl
 have q6 : At (Ty.lst Ty.ints (if methMay nm n l = 0 then fromL (roundsL n.toNat) l else [])) s3 a3 (.tmp 4) := D3.kt q3 rfl
 have q7 : At (Ty.int (methMay nm n l)) s3 a3 (.tmp 5) := D3.kt q4 rfl
 have q8 : At (Ty.bool (decide ((methMay nm n l) ≠ (0 : Int)))) s3 a3 (.tmp 20) := D3.done 1
 clear D3
 refine tn ?_
 refine cond_p (p := ((methMay nm n l) ≠ (0 : Int))) q8 (fun c1 => ?_) (fun c1 => ?_)
 ·
  have hcm : courseMay nm n l = methMay nm n l := (by unfold courseMay; rw [if_pos c1])
  refine wp_seq ?_
  refine reg (a := a3) (σ := s3) rfl (fun i_ => List.getD [(Ty.pr (Ty.int (methMay nm n l))), (Ty.pr (Ty.val (Value.slice none 0 0))), (Ty.pr (Ty.int (methMay nm n l)))] i_ Pr.any) ok3 rfl ⟨?_, ?_, ?_, trivial⟩ ?_
  · intro ax tx hs okx sm d0
    exact run_plain rfl (y_move (kp (sm 5 rfl) hs q7))
  · intro ax tx hs okx sm d0
    exact run_plain rfl (y_assign rfl)
  · intro ax tx hs okx sm d0 d1 d2 d3
    have e0 : At (Ty.int (methMay nm n l)) tx ax (.tmp 21) := d0 rfl
    have e1 : At (Ty.val (Value.slice none 0 0)) tx ax (.tmp 2) := d1 rfl
    exact run_plain rfl (y_assign e0)
  intro a4 s4 D4
  have ok4 := D4.ok
  have F4 := F3.step0 D4.stp
  have q9 : At (Ty.val (Value.slice none 0 0)) s4 a4 (.tmp 2) := D4.done 1
  have q10 : At (Ty.int (methMay nm n l)) s4 a4 (.tmp 3) := D4.done 2
  clear D4
  refine tn ?_
  refine wp_ret ?_
  refine tr ?_
  exact ret2 rfl ok4 F4 (nil_lst (by (rw [hcm, if_neg c1])) q9) (cvi (by (exact hcm.symm)) q10)
 ·
  have h0 := Classical.not_not.1 c1; obtain ⟨hmo, hnn⟩ := methMay_ok' h0; have hm1 := hmo.n1; have hm2 := hmo.n2; have hml := hmo.l2; have hml1 := hmo.l1; have hrl := roundsL_len n.toNat; have hfl := fromL_len (roundsL n.toNat) l; obtain ⟨hhr, hhl⟩ := hmo.head; have hrm := rowMay_ok.2 hhr; have hol := ordTo_le hhr _ (Nat.le_refl _); have hox : ordL (headL n.toNat l) * l.length ≤ 27720 * 200 := Nat.mul_le_mul (by unfold ordL; omega) hml; have hop : 0 ≤ ordL (headL n.toNat l) * l.length := Nat.zero_le _; have hocast : (((ordL (headL n.toNat l)) : Nat) : Int) * ((l.length : Nat) : Int) = ((ordL (headL n.toNat l) * l.length : Nat) : Int) := (Int.natCast_mul _ _).symm; have hob : ordL (headL n.toNat l) ≤ 27720 := hol.2
  have q11 : At (Ty.lst Ty.ints (fromL (roundsL n.toNat) l)) s3 a3 (.tmp 4) := cvt (T := (Ty.lst Ty.ints (if methMay nm n l = 0 then fromL (roundsL n.toNat) l else []))) (U := (Ty.lst Ty.ints (fromL (roundsL n.toNat) l))) (by rw [if_pos h0]) q6
  refine wp_skip ?_
  refine tn ?_
  refine wp_seq ?_
  refine reg (a := a3) (σ := s3) rfl (fun i_ => List.getD [(Ty.pr (Ty.agg [(Ty.val (Value.string nm)), (Ty.int n), (Ty.lst Ty.ints l)])), (Ty.pr (Ty.tup3 (Ty.lst Ty.int (headL n.toNat l)) (Ty.nat (ordL (headL n.toNat l))) (Ty.int (0 : Int)))), (Ty.pr (Ty.tup3 (Ty.lst Ty.int (headL n.toNat l)) (Ty.nat (ordL (headL n.toNat l))) (Ty.int (0 : Int)))), (Ty.pr (Ty.lst Ty.int (headL n.toNat l))), (Ty.pr (Ty.nat (ordL (headL n.toNat l)))), (Ty.pr (Ty.int (0 : Int))), (Ty.pr (Ty.lst Ty.int (headL n.toNat l))), (Ty.pr (Ty.nat (ordL (headL n.toNat l)))), (Ty.pr (Ty.int (0 : Int)))] i_ Pr.any) ok3 rfl ⟨?_, ?_, ?_, ?_, ?_, ?_, ?_, ?_, ?_, trivial⟩ ?_
  · intro ax tx hs okx sm
    exact run_plain rfl (y_loadagg Try.underlying31 Try.inf31 (kp (sm 1 rfl) hs q5))
  · intro ax tx hs okx sm d0
    have e0 : At (Ty.agg [(Ty.val (Value.string nm)), (Ty.int n), (Ty.lst Ty.ints l)]) tx ax (.tmp 23) := d0 rfl
    exact run_plain rfl ((y_call #[ax.eval (.tmp 23)] Try.func17 rfl rfl (by simp only [List.map_toArray, List.map_cons, List.map_nil]) (head_fn (nm) (n) (l) _ _ e0 (by first | omega | assumption) (by first | omega | assumption))).mono (fun τ _ h => cvt (σ := τ) (T := (Ty.tup3 (Ty.lst Ty.int (if methMay nm n l = 0 then headL n.toNat l else [])) (Ty.nat (if methMay nm n l = 0 then ordL (headL n.toNat l) else 0)) (Ty.int (methMay nm n l)))) (U := (Ty.tup3 (Ty.lst Ty.int (headL n.toNat l)) (Ty.nat (ordL (headL n.toNat l))) (Ty.int (0 : Int)))) (by rw [if_pos h0, if_pos h0, h0]) h))
  · intro ax tx hs okx sm d0
    have e1 : At (Ty.tup3 (Ty.lst Ty.int (headL n.toNat l)) (Ty.nat (ordL (headL n.toNat l))) (Ty.int (0 : Int))) tx ax (.tmp 24) := d0 rfl
    exact run_plain rfl (y_move e1)
  · intro ax tx hs okx sm d0
    have e2 : At (Ty.tup3 (Ty.lst Ty.int (headL n.toNat l)) (Ty.nat (ordL (headL n.toNat l))) (Ty.int (0 : Int))) tx ax (.tmp 22) := d0 rfl
    exact run_plain rfl (y_ext3_0 e2)
  · intro ax tx hs okx sm d0 d1
    have e2 : At (Ty.tup3 (Ty.lst Ty.int (headL n.toNat l)) (Ty.nat (ordL (headL n.toNat l))) (Ty.int (0 : Int))) tx ax (.tmp 22) := d0 rfl
    exact run_plain rfl (y_ext3_1 e2)
  · intro ax tx hs okx sm d0 d1
    have e2 : At (Ty.tup3 (Ty.lst Ty.int (headL n.toNat l)) (Ty.nat (ordL (headL n.toNat l))) (Ty.int (0 : Int))) tx ax (.tmp 22) := d0 rfl
    exact run_plain rfl (y_ext3_2 e2)
  · intro ax tx hs okx sm d0 d1 d2 d3 d4 d5 d6 d7
    have e3 : At (Ty.lst Ty.int (headL n.toNat l)) tx ax (.tmp 25) := d0 rfl
    have e1 : At (Ty.tup3 (Ty.lst Ty.int (headL n.toNat l)) (Ty.nat (ordL (headL n.toNat l))) (Ty.int (0 : Int))) tx ax (.tmp 24) := d1 rfl
    have e0 : At (Ty.agg [(Ty.val (Value.string nm)), (Ty.int n), (Ty.lst Ty.ints l)]) tx ax (.tmp 23) := d2 rfl
    have e2 : At (Ty.tup3 (Ty.lst Ty.int (headL n.toNat l)) (Ty.nat (ordL (headL n.toNat l))) (Ty.int (0 : Int))) tx ax (.tmp 22) := d4 rfl
    exact run_plain rfl (y_assign e3)
  · intro ax tx hs okx sm d0 d1 d2 d3 d4 d5 d6 d7 d8
    have e4 : At (Ty.nat (ordL (headL n.toNat l))) tx ax (.tmp 26) := d0 rfl
    have e6 : At (Ty.lst Ty.int (headL n.toNat l)) tx ax (.tmp 6) := d1 rfl
    have e0 : At (Ty.agg [(Ty.val (Value.string nm)), (Ty.int n), (Ty.lst Ty.ints l)]) tx ax (.tmp 23) := d2 rfl
    have e1 : At (Ty.tup3 (Ty.lst Ty.int (headL n.toNat l)) (Ty.nat (ordL (headL n.toNat l))) (Ty.int (0 : Int))) tx ax (.tmp 24) := d3 rfl
    have e2 : At (Ty.tup3 (Ty.lst Ty.int (headL n.toNat l)) (Ty.nat (ordL (headL n.toNat l))) (Ty.int (0 : Int))) tx ax (.tmp 22) := d4 rfl
    have e3 : At (Ty.lst Ty.int (headL n.toNat l)) tx ax (.tmp 25) := d5 rfl
    exact run_plain rfl (y_assign e4)
  · intro ax tx hs okx sm d0 d1 d2 d3 d4 d5 d6 d7 d8 d9
    have e5 : At (Ty.int (0 : Int)) tx ax (.tmp 27) := d0 rfl
    have e7 : At (Ty.nat (ordL (headL n.toNat l))) tx ax (.tmp 7) := d1 rfl
    have e0 : At (Ty.agg [(Ty.val (Value.string nm)), (Ty.int n), (Ty.lst Ty.ints l)]) tx ax (.tmp 23) := d2 rfl
    have e1 : At (Ty.tup3 (Ty.lst Ty.int (headL n.toNat l)) (Ty.nat (ordL (headL n.toNat l))) (Ty.int (0 : Int))) tx ax (.tmp 24) := d3 rfl
    have e2 : At (Ty.tup3 (Ty.lst Ty.int (headL n.toNat l)) (Ty.nat (ordL (headL n.toNat l))) (Ty.int (0 : Int))) tx ax (.tmp 22) := d4 rfl
    have e3 : At (Ty.lst Ty.int (headL n.toNat l)) tx ax (.tmp 25) := d5 rfl
    have e4 : At (Ty.nat (ordL (headL n.toNat l))) tx ax (.tmp 26) := d6 rfl
    have e6 : At (Ty.lst Ty.int (headL n.toNat l)) tx ax (.tmp 6) := d8 rfl
    exact run_plain rfl (y_assign e5)
  intro a5 s5 D5
  have ok5 := D5.ok
  have F5 := F3.step0 D5.stp
  have q12 : At (Ty.ref [(Ty.val (Value.string nm)), (Ty.int n), (Ty.lst Ty.ints l)]) s5 a5 (.tmp 1) := D5.kt q5 rfl
  have q13 : At (Ty.lst Ty.ints (fromL (roundsL n.toNat) l)) s5 a5 (.tmp 4) := D5.kt q11 rfl
  have q14 : At (Ty.lst Ty.int (headL n.toNat l)) s5 a5 (.tmp 6) := D5.done 6
  have q15 : At (Ty.nat (ordL (headL n.toNat l))) s5 a5 (.tmp 7) := D5.done 7
  clear D5
  refine tn ?_
  refine wp_seq ?_
  refine wp_seq ?_
  refine reg (a := a5) (σ := s5) rfl (fun i_ => List.getD [(Ty.pr (Ty.nat (ordL (headL n.toNat l)))), (Ty.pr (Ty.ref [(Ty.lst Ty.ints l)])), (Ty.pr (Ty.lst Ty.ints l)), (Ty.pr (Ty.nat (List.length l))), (Ty.pr (Ty.int ((((ordL (headL n.toNat l)) : Nat) : Int) * (((List.length l) : Nat) : Int)))), (Ty.pr (Ty.bool (decide ((20000 : Int) < ((((ordL (headL n.toNat l)) : Nat) : Int) * (((List.length l) : Nat) : Int))))))] i_ Pr.any) ok5 rfl ⟨?_, ?_, ?_, ?_, ?_, ?_, trivial⟩ ?_
  · intro ax tx hs okx sm
    exact run_plain rfl (y_move (kp (sm 7 rfl) hs q15))
  · intro ax tx hs okx sm
    exact run_plain rfl (y_field Try.fld31_2 Try.inf24 (by decide) (kp (sm 1 rfl) hs q12) rfl)
  · intro ax tx hs okx sm d0
    have e1 : At (Ty.ref [(Ty.lst Ty.ints l)]) tx ax (.tmp 29) := d0 rfl
    exact run_plain rfl (y_load Try.underlying24 rfl e1 rfl)
  · intro ax tx hs okx sm d0
    have e2 : At (Ty.lst Ty.ints l) tx ax (.tmp 30) := d0 rfl
    exact run_plain rfl (y_len Try.underlying24 e2)
  · intro ax tx hs okx sm d0 d1
    have e0 : At (Ty.nat (ordL (headL n.toNat l))) tx ax (.tmp 28) := d0 rfl
    have e3 : At (Ty.nat (List.length l)) tx ax (.tmp 31) := d1 rfl
    exact run_plain rfl (y_mul e0 e3 (w64 (by omega) (by omega)))
  · intro ax tx hs okx sm d0
    have e4 : At (Ty.int ((((ordL (headL n.toNat l)) : Nat) : Int) * (((List.length l) : Nat) : Int))) tx ax (.tmp 32) := d0 rfl
    exact run_plain rfl (y_gtr e4 rfl)
  intro a6 s6 D6
  have ok6 := D6.ok
  have F6 := F5.step0 D6.stp
  have q16 : At (Ty.ref [(Ty.val (Value.string nm)), (Ty.int n), (Ty.lst Ty.ints l)]) s6 a6 (.tmp 1) := D6.kt q12 rfl
  have q17 : At (Ty.lst Ty.ints (fromL (roundsL n.toNat) l)) s6 a6 (.tmp 4) := D6.kt q13 rfl
  have q18 : At (Ty.lst Ty.int (headL n.toNat l)) s6 a6 (.tmp 6) := D6.kt q14 rfl
  have q19 : At (Ty.nat (ordL (headL n.toNat l))) s6 a6 (.tmp 7) := D6.kt q15 rfl
  have q20 : At (Ty.bool (decide ((20000 : Int) < ((((ordL (headL n.toNat l)) : Nat) : Int) * (((List.length l) : Nat) : Int))))) s6 a6 (.tmp 33) := D6.done 5
  clear D6
  refine tn ?_
  refine cond_p (p := ((20000 : Int) < ((((ordL (headL n.toNat l)) : Nat) : Int) * (((List.length l) : Nat) : Int)))) q20 (fun c2 => ?_) (fun c2 => ?_)
  ·
   have hcm : courseMay nm n l = 3 := (by unfold courseMay; rw [if_neg c1, if_pos (by omega)])
   refine wp_seq ?_
   refine reg (a := a6) (σ := s6) rfl (fun i_ => List.getD [(Ty.pr (Ty.val (Value.slice none 0 0))), (Ty.pr (Ty.int (3 : Int)))] i_ Pr.any) ok6 rfl ⟨?_, ?_, trivial⟩ ?_
   · intro ax tx hs okx sm
     exact run_plain rfl (y_assign rfl)
   · intro ax tx hs okx sm d0 d1
     have e0 : At (Ty.val (Value.slice none 0 0)) tx ax (.tmp 2) := d0 rfl
     exact run_plain rfl (y_assign rfl)
   intro a7 s7 D7
   have ok7 := D7.ok
   have F7 := F6.step0 D7.stp
   have q21 : At (Ty.val (Value.slice none 0 0)) s7 a7 (.tmp 2) := D7.done 0
   have q22 : At (Ty.int (3 : Int)) s7 a7 (.tmp 3) := D7.done 1
   clear D7
   refine tn ?_
   refine wp_ret ?_
   refine tr ?_
   exact ret2 rfl ok7 F7 (nil_lst (by (rw [hcm, if_neg (by omega)])) q21) (cvi (by (exact hcm.symm)) q22)
  ·
   have hcm : courseMay nm n l = 0 := (by unfold courseMay; rw [if_neg c1, if_neg (by omega)])
   refine wp_skip ?_
   refine tn ?_
   refine wp_seq ?_
   refine reg (a := a6) (σ := s6) rfl (fun i_ => List.getD [(Ty.pr (Ty.ref [(Ty.int n), (Ty.lst Ty.ints l)])), (Ty.pr (Ty.int n)), (Ty.pr (Ty.tup2 (Ty.lst Ty.int (roundsL ((n).toNat))) (Ty.int (0 : Int)))), (Ty.pr (Ty.tup2 (Ty.lst Ty.int (roundsL ((n).toNat))) (Ty.int (0 : Int)))), (Ty.pr (Ty.lst Ty.int (roundsL ((n).toNat)))), (Ty.pr (Ty.int (0 : Int))), (Ty.pr (Ty.lst Ty.int (roundsL ((n).toNat)))), (Ty.pr (Ty.int (0 : Int)))] i_ Pr.any) ok6 rfl ⟨?_, ?_, ?_, ?_, ?_, ?_, ?_, ?_, trivial⟩ ?_
   · intro ax tx hs okx sm
     exact run_plain rfl (y_field Try.fld31_1 Try.inf3 (by decide) (kp (sm 1 rfl) hs q16) rfl)
   · intro ax tx hs okx sm d0
     have e0 : At (Ty.ref [(Ty.int n), (Ty.lst Ty.ints l)]) tx ax (.tmp 35) := d0 rfl
     exact run_plain rfl (y_load Try.underlying3 rfl e0 rfl)
   · intro ax tx hs okx sm d0
     have e1 : At (Ty.int n) tx ax (.tmp 36) := d0 rfl
     exact run_plain rfl (y_call #[ax.eval (.tmp 36)] Try.func30 rfl rfl (by simp only [List.map_toArray, List.map_cons, List.map_nil]) (rounds_fn ((n).toNat) _ _ (cvi (σ := tx) (by omega) e1) (by omega)))
   · intro ax tx hs okx sm d0
     have e2 : At (Ty.tup2 (Ty.lst Ty.int (roundsL ((n).toNat))) (Ty.int (0 : Int))) tx ax (.tmp 37) := d0 rfl
     exact run_plain rfl (y_move e2)
   · intro ax tx hs okx sm d0
     have e3 : At (Ty.tup2 (Ty.lst Ty.int (roundsL ((n).toNat))) (Ty.int (0 : Int))) tx ax (.tmp 34) := d0 rfl
     exact run_plain rfl (y_ext2_0 e3)
   · intro ax tx hs okx sm d0 d1
     have e3 : At (Ty.tup2 (Ty.lst Ty.int (roundsL ((n).toNat))) (Ty.int (0 : Int))) tx ax (.tmp 34) := d0 rfl
     exact run_plain rfl (y_ext2_1 e3)
   · intro ax tx hs okx sm d0 d1 d2 d3 d4 d5 d6 d7
     have e4 : At (Ty.lst Ty.int (roundsL ((n).toNat))) tx ax (.tmp 38) := d0 rfl
     have e2 : At (Ty.tup2 (Ty.lst Ty.int (roundsL ((n).toNat))) (Ty.int (0 : Int))) tx ax (.tmp 37) := d1 rfl
     have e0 : At (Ty.ref [(Ty.int n), (Ty.lst Ty.ints l)]) tx ax (.tmp 35) := d2 rfl
     have e1 : At (Ty.int n) tx ax (.tmp 36) := d3 rfl
     have e3 : At (Ty.tup2 (Ty.lst Ty.int (roundsL ((n).toNat))) (Ty.int (0 : Int))) tx ax (.tmp 34) := d5 rfl
     exact run_plain rfl (y_assign e4)
   · intro ax tx hs okx sm d0 d1 d2 d3 d4 d5 d6 d7 d8
     have e5 : At (Ty.int (0 : Int)) tx ax (.tmp 39) := d0 rfl
     have e6 : At (Ty.lst Ty.int (roundsL ((n).toNat))) tx ax (.tmp 9) := d1 rfl
     have e0 : At (Ty.ref [(Ty.int n), (Ty.lst Ty.ints l)]) tx ax (.tmp 35) := d2 rfl
     have e1 : At (Ty.int n) tx ax (.tmp 36) := d3 rfl
     have e2 : At (Ty.tup2 (Ty.lst Ty.int (roundsL ((n).toNat))) (Ty.int (0 : Int))) tx ax (.tmp 37) := d4 rfl
     have e3 : At (Ty.tup2 (Ty.lst Ty.int (roundsL ((n).toNat))) (Ty.int (0 : Int))) tx ax (.tmp 34) := d5 rfl
     have e4 : At (Ty.lst Ty.int (roundsL ((n).toNat))) tx ax (.tmp 38) := d6 rfl
     exact run_plain rfl (y_assign e5)
   intro a8 s8 D8
   have ok8 := D8.ok
   have F8 := F6.step0 D8.stp
   have q23 : At (Ty.lst Ty.ints (fromL (roundsL n.toNat) l)) s8 a8 (.tmp 4) := D8.kt q17 rfl
   have q24 : At (Ty.lst Ty.int (headL n.toNat l)) s8 a8 (.tmp 6) := D8.kt q18 rfl
   have q25 : At (Ty.nat (ordL (headL n.toNat l))) s8 a8 (.tmp 7) := D8.kt q19 rfl
   have q26 : At (Ty.lst Ty.int (roundsL ((n).toNat))) s8 a8 (.tmp 9) := D8.done 6
   clear D8
   refine tn ?_
   refine wp_seq ?_
   refine reg (a := a8) (σ := s8) rfl (fun i_ => List.getD [(Ty.pr (Ty.val (Value.slice none 0 0)))] i_ Pr.any) ok8 rfl ⟨?_, trivial⟩ ?_
   · intro ax tx hs okx sm
     exact run_plain rfl (y_assign rfl)
   intro a9 s9 D9
   have ok9 := D9.ok
   have F9 := F8.step0 D9.stp
   have q27 : At (Ty.lst Ty.ints (fromL (roundsL n.toNat) l)) s9 a9 (.tmp 4) := D9.kt q23 rfl
   have q28 : At (Ty.lst Ty.int (headL n.toNat l)) s9 a9 (.tmp 6) := D9.kt q24 rfl
   have q29 : At (Ty.nat (ordL (headL n.toNat l))) s9 a9 (.tmp 7) := D9.kt q25 rfl
   have q30 : At (Ty.lst Ty.int (roundsL ((n).toNat))) s9 a9 (.tmp 9) := D9.kt q26 rfl
   have q31 : At (Ty.val (Value.slice none 0 0)) s9 a9 (.tmp 11) := D9.done 0
   clear D9
   refine tn ?_
   refine wp_seq ?_
   refine wp_seq ?_
   refine reg (a := a9) (σ := s9) rfl (fun i_ => List.getD [(Ty.pr (Ty.nat (ordL (headL n.toNat l)))), (Ty.pr (Ty.int (0 : Int)))] i_ Pr.any) ok9 rfl ⟨?_, ?_, trivial⟩ ?_
   · intro ax tx hs okx sm
     exact run_plain rfl (y_move (kp (sm 7 rfl) hs q29))
   · intro ax tx hs okx sm
     exact run_plain rfl (y_move rfl)
   intro a10 s10 D10
   have ok10 := D10.ok
   have F10 := F9.step0 D10.stp
   have q32 : At (Ty.lst Ty.ints (fromL (roundsL n.toNat) l)) s10 a10 (.tmp 4) := D10.kt q27 rfl
   have q33 : At (Ty.lst Ty.int (headL n.toNat l)) s10 a10 (.tmp 6) := D10.kt q28 rfl
   have q34 : At (Ty.lst Ty.int (roundsL ((n).toNat))) s10 a10 (.tmp 9) := D10.kt q30 rfl
   have q35 : At (Ty.val (Value.slice none 0 0)) s10 a10 (.tmp 11) := D10.kt q31 rfl
   have q36 : At (Ty.nat (ordL (headL n.toNat l))) s10 a10 (.tmp 40) := D10.done 0
   have q37 : At (Ty.int (0 : Int)) s10 a10 (.tmp 41) := D10.done 1
   clear D10
   refine tn ?_
   refine wp_block ?_
   refine loop (fun n1 a11 w1 => ∃ (t1 : GW) (k : Nat), t1.w = w1 ∧ From s0 t1 ∧ Ok 65 a11 ∧ At (Ty.nat k) t1 a11 (.tmp 41) ∧ At (Ty.lst Ty.int (powL n.toNat (headL n.toNat l) k)) t1 a11 (.tmp 9) ∧ (Pr.own 2 22 1 (List.length (crs n.toNat l (k * l.length))) (List.map Ty.ints (crs n.toNat l (k * l.length)))).has t1 (a11.eval (.tmp 11)) ∧ At (Ty.lst Ty.ints (fromL (roundsL n.toNat) l)) t1 a11 (.tmp 4) ∧ At (Ty.lst Ty.int (headL n.toNat l)) t1 a11 (.tmp 6) ∧ At (Ty.nat (ordL (headL n.toNat l))) t1 a11 (.tmp 40) ∧ (k ≤ (ordL (headL n.toNat l))) ∧ n1 = (ordL (headL n.toNat l)) - k) ((ordL (headL n.toNat l)) - (0)) ?_ ?_
   ·
    exact ⟨s10, 0, rfl, F10, ok10, (cvi (by (first | rfl | omega | (simp_all; done) | (simp_all; omega))) q37), (cvt (by (rfl)) q34), (by have e : a10.eval (.tmp 11) = _ := q35; rw [e]; have z : (crs n.toNat l ((0) * l.length)) = [] := (by simp [crs]); rw [z]; exact Own.nil _ _ _ _), q32, q33, q36, by omega, rfl⟩
   ·
    rintro n2 a12 w2 ⟨t2, k, rfl, F11, ok11, q38, q39, q40, q41, q42, q43, hk, rfl⟩
    have hcl := crs_len n.toNat l (k * l.length)
    refine wp_seq ?_
    refine reg (a := a12) (σ := t2) rfl (fun i_ => List.getD [(Ty.pr (Ty.bool (decide (((k : Nat) : Int) < (((ordL (headL n.toNat l)) : Nat) : Int)))))] i_ Pr.any) ok11 rfl ⟨?_, trivial⟩ ?_
    · intro ax tx hs okx sm
      exact run_plain rfl (y_lss (kp (sm 41 rfl) hs q38) (kp (sm 40 rfl) hs q43))
    intro a13 s11 D11
    have ok12 := D11.ok
    have F12 := F11.step0 D11.stp
    have q44 : At (Ty.nat k) s11 a13 (.tmp 41) := D11.kt q38 rfl
    have q45 : At (Ty.lst Ty.int (powL n.toNat (headL n.toNat l) k)) s11 a13 (.tmp 9) := D11.kt q39 rfl
    have q46 : (Pr.own 2 22 1 (List.length (crs n.toNat l (k * l.length))) (List.map Ty.ints (crs n.toNat l (k * l.length)))).has s11 (a13.eval (.tmp 11)) := D11.ko q40 rfl
    have q47 : At (Ty.lst Ty.ints (fromL (roundsL n.toNat) l)) s11 a13 (.tmp 4) := D11.kt q41 rfl
    have q48 : At (Ty.lst Ty.int (headL n.toNat l)) s11 a13 (.tmp 6) := D11.kt q42 rfl
    have q49 : At (Ty.nat (ordL (headL n.toNat l))) s11 a13 (.tmp 40) := D11.kt q43 rfl
    have q50 : At (Ty.bool (decide (((k : Nat) : Int) < (((ordL (headL n.toNat l)) : Nat) : Int)))) s11 a13 (.tmp 42) := D11.done 0
    clear D11
    refine tn ?_
    refine wp_seq ?_
    refine cond_p (p := (((k : Nat) : Int) < (((ordL (headL n.toNat l)) : Nat) : Int))) q50 (fun c3 => ?_) (fun c3 => ?_)
    ·
     have hpl := powL_len (n := n.toNat) hhl k; have hmk : k * l.length + l.length ≤ ordL (headL n.toNat l) * l.length := (by rw [← Nat.succ_mul]; exact Nat.mul_le_mul_right _ (by omega)); have htl : (List.take ((((fromL (roundsL n.toNat) l).length : Nat) : Int) - (1 : Int)).toNat (fromL (roundsL n.toNat) l)).length = l.length := (by rw [List.length_take, hfl]; omega)
     refine wp_skip ?_
     refine tn ?_
     refine wp_seq ?_
     refine wp_block ?_
     refine wp_seq ?_
     refine wp_seq ?_
     refine reg (a := a13) (σ := s11) rfl (fun i_ => List.getD [(Ty.pr (Ty.lst Ty.ints (fromL (roundsL n.toNat) l))), (Ty.pr (Ty.lst Ty.ints (fromL (roundsL n.toNat) l))), (Ty.pr (Ty.nat (List.length (fromL (roundsL n.toNat) l)))), (Ty.pr (Ty.int ((((List.length (fromL (roundsL n.toNat) l)) : Nat) : Int) - (1 : Int)))), (Ty.pr (Ty.lst Ty.ints ((fromL (roundsL n.toNat) l).take (((((List.length (fromL (roundsL n.toNat) l)) : Nat) : Int) - (1 : Int))).toNat))), (Ty.pr (Ty.nat (List.length ((fromL (roundsL n.toNat) l).take (((((List.length (fromL (roundsL n.toNat) l)) : Nat) : Int) - (1 : Int))).toNat)))), (Ty.pr (Ty.int (0 : Int)))] i_ Pr.any) ok12 rfl ⟨?_, ?_, ?_, ?_, ?_, ?_, ?_, trivial⟩ ?_
     · intro ax tx hs okx sm
       exact run_plain rfl (y_move (kp (sm 4 rfl) hs q47))
     · intro ax tx hs okx sm
       exact run_plain rfl (y_move (kp (sm 4 rfl) hs q47))
     · intro ax tx hs okx sm d0
       have e1 : At (Ty.lst Ty.ints (fromL (roundsL n.toNat) l)) tx ax (.tmp 44) := d0 rfl
       exact run_plain rfl (y_len Try.underlying24 e1)
     · intro ax tx hs okx sm d0
       have e2 : At (Ty.nat (List.length (fromL (roundsL n.toNat) l))) tx ax (.tmp 45) := d0 rfl
       exact run_plain rfl (y_sub e2 rfl (w64 (by omega) (by omega)))
     · intro ax tx hs okx sm d0 d1
       have e0 : At (Ty.lst Ty.ints (fromL (roundsL n.toNat) l)) tx ax (.tmp 43) := d0 rfl
       have e3 : At (Ty.int ((((List.length (fromL (roundsL n.toNat) l)) : Nat) : Int) - (1 : Int))) tx ax (.tmp 46) := d1 rfl
       exact run_plain rfl (y_take Try.underlying24 Try.inf22 e0 (toN (σ := tx) e3 (by omega)) (by omega))
     · intro ax tx hs okx sm d0
       have e4 : At (Ty.lst Ty.ints ((fromL (roundsL n.toNat) l).take (((((List.length (fromL (roundsL n.toNat) l)) : Nat) : Int) - (1 : Int))).toNat)) tx ax (.tmp 47) := d0 rfl
       exact run_plain rfl (y_len Try.underlying24 e4)
     · intro ax tx hs okx sm
       exact run_plain rfl (y_move rfl)
     intro a14 s12 D12
     have ok13 := D12.ok
     have F13 := F12.step0 D12.stp
     have q51 : At (Ty.nat k) s12 a14 (.tmp 41) := D12.kt q44 rfl
     have q52 : At (Ty.lst Ty.int (powL n.toNat (headL n.toNat l) k)) s12 a14 (.tmp 9) := D12.kt q45 rfl
     have q53 : (Pr.own 2 22 1 (List.length (crs n.toNat l (k * l.length))) (List.map Ty.ints (crs n.toNat l (k * l.length)))).has s12 (a14.eval (.tmp 11)) := D12.ko q46 rfl
     have q54 : At (Ty.lst Ty.ints (fromL (roundsL n.toNat) l)) s12 a14 (.tmp 4) := D12.kt q47 rfl
     have q55 : At (Ty.lst Ty.int (headL n.toNat l)) s12 a14 (.tmp 6) := D12.kt q48 rfl
     have q56 : At (Ty.nat (ordL (headL n.toNat l))) s12 a14 (.tmp 40) := D12.kt q49 rfl
     have q57 : At (Ty.lst Ty.ints ((fromL (roundsL n.toNat) l).take (((((List.length (fromL (roundsL n.toNat) l)) : Nat) : Int) - (1 : Int))).toNat)) s12 a14 (.tmp 47) := D12.done 4
     have b1 := sl_le q57
     have q58 : At (Ty.nat (List.length ((fromL (roundsL n.toNat) l).take (((((List.length (fromL (roundsL n.toNat) l)) : Nat) : Int) - (1 : Int))).toNat))) s12 a14 (.tmp 48) := D12.done 5
     have q59 : At (Ty.int (0 : Int)) s12 a14 (.tmp 49) := D12.done 6
     clear D12
     refine tn ?_
     refine wp_block ?_
     refine loop (fun n3 a15 w3 => ∃ (t3 : GW) (j : Nat), t3.w = w3 ∧ From s0 t3 ∧ Ok 65 a15 ∧ At (Ty.nat j) t3 a15 (.tmp 49) ∧ (Pr.own 2 22 1 (List.length (crs n.toNat l (k * l.length + j))) (List.map Ty.ints (crs n.toNat l (k * l.length + j)))).has t3 (a15.eval (.tmp 11)) ∧ At (Ty.nat k) t3 a15 (.tmp 41) ∧ At (Ty.lst Ty.int (powL n.toNat (headL n.toNat l) k)) t3 a15 (.tmp 9) ∧ At (Ty.lst Ty.ints (fromL (roundsL n.toNat) l)) t3 a15 (.tmp 4) ∧ At (Ty.lst Ty.int (headL n.toNat l)) t3 a15 (.tmp 6) ∧ At (Ty.nat (ordL (headL n.toNat l))) t3 a15 (.tmp 40) ∧ At (Ty.lst Ty.ints ((fromL (roundsL n.toNat) l).take (((((List.length (fromL (roundsL n.toNat) l)) : Nat) : Int) - (1 : Int))).toNat)) t3 a15 (.tmp 47) ∧ At (Ty.nat (List.length ((fromL (roundsL n.toNat) l).take (((((List.length (fromL (roundsL n.toNat) l)) : Nat) : Int) - (1 : Int))).toNat))) t3 a15 (.tmp 48) ∧ (j ≤ l.length) ∧ n3 = l.length - j) (l.length - (0)) ?_ ?_
     ·
      exact ⟨s12, 0, rfl, F13, ok13, (cvi (by (first | rfl | omega | (simp_all; done) | (simp_all; omega))) q59), (cvo (by (simp)) (by (simp)) q53), q51, q52, q54, q55, q56, q57, q58, by omega, rfl⟩
     ·
      rintro n4 a16 w4 ⟨t4, j, rfl, F14, ok14, q60, q61, q62, q63, q64, q65, q66, q67, q68, hk, rfl⟩
      have hcl2 := crs_len n.toNat l (k * l.length + j)
      refine wp_seq ?_
      refine reg (a := a16) (σ := t4) rfl (fun i_ => List.getD [(Ty.pr (Ty.bool (decide (((j : Nat) : Int) < (((List.length ((fromL (roundsL n.toNat) l).take (((((List.length (fromL (roundsL n.toNat) l)) : Nat) : Int) - (1 : Int))).toNat)) : Nat) : Int)))))] i_ Pr.any) ok14 rfl ⟨?_, trivial⟩ ?_
      · intro ax tx hs okx sm
        exact run_plain rfl (y_lss (kp (sm 49 rfl) hs q60) (kp (sm 48 rfl) hs q68))
      intro a17 s13 D13
      have ok15 := D13.ok
      have F15 := F14.step0 D13.stp
      have q69 : At (Ty.nat j) s13 a17 (.tmp 49) := D13.kt q60 rfl
      have q70 : (Pr.own 2 22 1 (List.length (crs n.toNat l (k * l.length + j))) (List.map Ty.ints (crs n.toNat l (k * l.length + j)))).has s13 (a17.eval (.tmp 11)) := D13.ko q61 rfl
      have q71 : At (Ty.nat k) s13 a17 (.tmp 41) := D13.kt q62 rfl
      have q72 : At (Ty.lst Ty.int (powL n.toNat (headL n.toNat l) k)) s13 a17 (.tmp 9) := D13.kt q63 rfl
      have q73 : At (Ty.lst Ty.ints (fromL (roundsL n.toNat) l)) s13 a17 (.tmp 4) := D13.kt q64 rfl
      have q74 : At (Ty.lst Ty.int (headL n.toNat l)) s13 a17 (.tmp 6) := D13.kt q65 rfl
      have q75 : At (Ty.nat (ordL (headL n.toNat l))) s13 a17 (.tmp 40) := D13.kt q66 rfl
      have q76 : At (Ty.lst Ty.ints ((fromL (roundsL n.toNat) l).take (((((List.length (fromL (roundsL n.toNat) l)) : Nat) : Int) - (1 : Int))).toNat)) s13 a17 (.tmp 47) := D13.kt q67 rfl
      have q77 : At (Ty.nat (List.length ((fromL (roundsL n.toNat) l).take (((((List.length (fromL (roundsL n.toNat) l)) : Nat) : Int) - (1 : Int))).toNat))) s13 a17 (.tmp 48) := D13.kt q68 rfl
      have q78 : At (Ty.bool (decide (((j : Nat) : Int) < (((List.length ((fromL (roundsL n.toNat) l).take (((((List.length (fromL (roundsL n.toNat) l)) : Nat) : Int) - (1 : Int))).toNat)) : Nat) : Int)))) s13 a17 (.tmp 50) := D13.done 0
      clear D13
      refine tn ?_
      refine wp_seq ?_
      refine cond_p (p := (((j : Nat) : Int) < (((List.length ((fromL (roundsL n.toNat) l).take (((((List.length (fromL (roundsL n.toNat) l)) : Nat) : Int) - (1 : Int))).toNat)) : Nat) : Int))) q78 (fun c4 => ?_) (fun c4 => ?_)
      ·
       have htk := take_fromL n.toNat l (k := ((((fromL (roundsL n.toNat) l).length : Nat) : Int) - (1 : Int)).toNat) (j := j) (by omega) (by omega); obtain ⟨hcr, hcl⟩ := curL_row (by omega) hm2 hmo.ok j (by omega); have hbd := hcr.bds; have hbd2 : ∀ i, i < (curL (roundsL n.toNat) l j).length → 0 ≤ (curL (roundsL n.toNat) l j).getD i 0 ∧ (curL (roundsL n.toNat) l j).getD i 0 < ((powL n.toNat (headL n.toNat l) k).length : Int) := (fun i hi => by have := hbd i hi; omega); have hle1 : (powL n.toNat (headL n.toNat l) k).length = (curL (roundsL n.toNat) l j).length := (by omega); have hle3 : (powL n.toNat (headL n.toNat l) k).length = ((List.take ((((fromL (roundsL n.toNat) l).length : Nat) : Int) - (1 : Int)).toNat (fromL (roundsL n.toNat) l)).getD j []).length := (by rw [htk]; exact hle1); have hbd3 : ∀ i, i < ((List.take ((((fromL (roundsL n.toNat) l).length : Nat) : Int) - (1 : Int)).toNat (fromL (roundsL n.toNat) l)).getD j []).length → 0 ≤ ((List.take ((((fromL (roundsL n.toNat) l).length : Nat) : Int) - (1 : Int)).toNat (fromL (roundsL n.toNat) l)).getD j []).getD i 0 ∧ ((List.take ((((fromL (roundsL n.toNat) l).length : Nat) : Int) - (1 : Int)).toNat (fromL (roundsL n.toNat) l)).getD j []).getD i 0 < ((powL n.toNat (headL n.toNat l) k).length : Int) := (by rw [htk]; exact hbd2); have hpl2 : (powL n.toNat (headL n.toNat l) k).length ≤ 12 := (by omega)
       refine wp_skip ?_
       refine tn ?_
       refine wp_seq ?_
       refine wp_block ?_
       refine wp_seq ?_
       refine reg (a := a17) (σ := s13) rfl (fun i_ => List.getD [(Ty.pr (Ty.ref [(Ty.lst Ty.int (((fromL (roundsL n.toNat) l).take (((((List.length (fromL (roundsL n.toNat) l)) : Nat) : Int) - (1 : Int))).toNat).getD j []))])), (Ty.pr (Ty.lst Ty.int (((fromL (roundsL n.toNat) l).take (((((List.length (fromL (roundsL n.toNat) l)) : Nat) : Int) - (1 : Int))).toNat).getD j []))), (Ty.pr (Ty.lst Ty.int (((fromL (roundsL n.toNat) l).take (((((List.length (fromL (roundsL n.toNat) l)) : Nat) : Int) - (1 : Int))).toNat).getD j [])))] i_ Pr.any) ok15 rfl ⟨?_, ?_, ?_, trivial⟩ ?_
       · intro ax tx hs okx sm
         exact run_plain rfl (y_index1 Try.underlying24 Try.inf22 (kp (sm 47 rfl) hs q76) (kp (sm 49 rfl) hs q69) (by omega) (lst_get Ty.ints ((fromL (roundsL n.toNat) l).take (((((List.length (fromL (roundsL n.toNat) l)) : Nat) : Int) - (1 : Int))).toNat) [] j (by omega)))
       · intro ax tx hs okx sm d0
         have e0 : At (Ty.ref [(Ty.lst Ty.int (((fromL (roundsL n.toNat) l).take (((((List.length (fromL (roundsL n.toNat) l)) : Nat) : Int) - (1 : Int))).toNat).getD j []))]) tx ax (.tmp 51) := d0 rfl
         exact run_plain rfl (y_load Try.underlying22 rfl e0 rfl)
       · intro ax tx hs okx sm d0 d1 d2
         have e1 : At (Ty.lst Ty.int (((fromL (roundsL n.toNat) l).take (((((List.length (fromL (roundsL n.toNat) l)) : Nat) : Int) - (1 : Int))).toNat).getD j [])) tx ax (.tmp 52) := d0 rfl
         have e0 : At (Ty.ref [(Ty.lst Ty.int (((fromL (roundsL n.toNat) l).take (((((List.length (fromL (roundsL n.toNat) l)) : Nat) : Int) - (1 : Int))).toNat).getD j []))]) tx ax (.tmp 51) := d1 rfl
         exact run_plain rfl (y_assign e1)
       intro a18 s14 D14
       have ok16 := D14.ok
       have F16 := F15.step0 D14.stp
       have q79 : At (Ty.nat j) s14 a18 (.tmp 49) := D14.kt q69 rfl
       have q80 : (Pr.own 2 22 1 (List.length (crs n.toNat l (k * l.length + j))) (List.map Ty.ints (crs n.toNat l (k * l.length + j)))).has s14 (a18.eval (.tmp 11)) := D14.ko q70 rfl
       have q81 : At (Ty.nat k) s14 a18 (.tmp 41) := D14.kt q71 rfl
       have q82 : At (Ty.lst Ty.int (powL n.toNat (headL n.toNat l) k)) s14 a18 (.tmp 9) := D14.kt q72 rfl
       have q83 : At (Ty.lst Ty.ints (fromL (roundsL n.toNat) l)) s14 a18 (.tmp 4) := D14.kt q73 rfl
       have q84 : At (Ty.lst Ty.int (headL n.toNat l)) s14 a18 (.tmp 6) := D14.kt q74 rfl
       have q85 : At (Ty.nat (ordL (headL n.toNat l))) s14 a18 (.tmp 40) := D14.kt q75 rfl
       have q86 : At (Ty.lst Ty.ints ((fromL (roundsL n.toNat) l).take (((((List.length (fromL (roundsL n.toNat) l)) : Nat) : Int) - (1 : Int))).toNat)) s14 a18 (.tmp 47) := D14.kt q76 rfl
       have q87 : At (Ty.nat (List.length ((fromL (roundsL n.toNat) l).take (((((List.length (fromL (roundsL n.toNat) l)) : Nat) : Int) - (1 : Int))).toNat))) s14 a18 (.tmp 48) := D14.kt q77 rfl
       have q88 : At (Ty.lst Ty.int (((fromL (roundsL n.toNat) l).take (((((List.length (fromL (roundsL n.toNat) l)) : Nat) : Int) - (1 : Int))).toNat).getD j [])) s14 a18 (.tmp 13) := D14.done 2
       clear D14
       refine tn ?_
       refine reg2 (a := a18) (σ := s14) rfl 5 (fun i_ => List.getD [(Ty.pr (Ty.val (a18.eval (.tmp 11)))), (Ty.pr (Ty.lst Ty.int (powL n.toNat (headL n.toNat l) k))), (Ty.pr (Ty.lst Ty.int (((fromL (roundsL n.toNat) l).take (((((List.length (fromL (roundsL n.toNat) l)) : Nat) : Int) - (1 : Int))).toNat).getD j []))), (Ty.pr (Ty.lst Ty.int (byL ((powL n.toNat (headL n.toNat l) k)) ((((fromL (roundsL n.toNat) l).take (((((List.length (fromL (roundsL n.toNat) l)) : Nat) : Int) - (1 : Int))).toNat).getD j []))))), (Ty.pr (Ty.sl 1 1 [(Ty.lst Ty.int (byL ((powL n.toNat (headL n.toNat l) k)) ((((fromL (roundsL n.toNat) l).take (((((List.length (fromL (roundsL n.toNat) l)) : Nat) : Int) - (1 : Int))).toNat).getD j []))))]))] i_ Pr.any) ok16 rfl (by decide) rfl ⟨?_, ?_, ?_, ?_, ?_, trivial⟩ ?_
       · intro ax tx hs okx sm
         exact run_plain rfl (y_move (sm 11 rfl))
       · intro ax tx hs okx sm
         exact run_plain rfl (y_move (kp (sm 9 rfl) hs q82))
       · intro ax tx hs okx sm
         exact run_plain rfl (y_move (kp (sm 13 rfl) hs q88))
       · intro ax tx hs okx sm d0 d1
         have e1 : At (Ty.lst Ty.int (powL n.toNat (headL n.toNat l) k)) tx ax (.tmp 54) := d0 rfl
         have e2 : At (Ty.lst Ty.int (((fromL (roundsL n.toNat) l).take (((((List.length (fromL (roundsL n.toNat) l)) : Nat) : Int) - (1 : Int))).toNat).getD j [])) tx ax (.tmp 55) := d1 rfl
         exact run_plain rfl (y_call #[ax.eval (.tmp 54), ax.eval (.tmp 55)] Try.func35 rfl rfl (by simp only [List.map_toArray, List.map_cons, List.map_nil]) (product_fn ((powL n.toNat (headL n.toNat l) k)) ((((fromL (roundsL n.toNat) l).take (((((List.length (fromL (roundsL n.toNat) l)) : Nat) : Int) - (1 : Int))).toNat).getD j [])) _ _ _ e1 e2 (by first | assumption | omega) (by first | assumption | omega) (by first | assumption | omega)))
       · intro ax tx hs okx sm d0
         have e3 : At (Ty.lst Ty.int (byL ((powL n.toNat (headL n.toNat l) k)) ((((fromL (roundsL n.toNat) l).take (((((List.length (fromL (roundsL n.toNat) l)) : Nat) : Int) - (1 : Int))).toNat).getD j [])))) tx ax (.tmp 56) := d0 rfl
         exact run_plain rfl (y_build1o Try.underlying24 Try.inf22 rfl (one_sl) e3)
       intro a19 s15 D15
       have ok17 := D15.ok
       have F17 := F16.step0 D15.stp
       have q89 := (Pr.own 2 22 1 (List.length (crs n.toNat l (k * l.length + j))) (List.map Ty.ints (crs n.toNat l (k * l.length + j)))).up D15.stp q80
       have q90 : At (Ty.nat j) s15 a19 (.tmp 49) := D15.kt q79 rfl
       have q91 : a19.eval (.tmp 11) = a18.eval (.tmp 11) := D15.same 11 rfl
       have q92 : At (Ty.nat k) s15 a19 (.tmp 41) := D15.kt q81 rfl
       have q93 : At (Ty.lst Ty.int (powL n.toNat (headL n.toNat l) k)) s15 a19 (.tmp 9) := D15.kt q82 rfl
       have q94 : At (Ty.lst Ty.ints (fromL (roundsL n.toNat) l)) s15 a19 (.tmp 4) := D15.kt q83 rfl
       have q95 : At (Ty.lst Ty.int (headL n.toNat l)) s15 a19 (.tmp 6) := D15.kt q84 rfl
       have q96 : At (Ty.nat (ordL (headL n.toNat l))) s15 a19 (.tmp 40) := D15.kt q85 rfl
       have q97 : At (Ty.lst Ty.ints ((fromL (roundsL n.toNat) l).take (((((List.length (fromL (roundsL n.toNat) l)) : Nat) : Int) - (1 : Int))).toNat)) s15 a19 (.tmp 47) := D15.kt q86 rfl
       have q98 : At (Ty.nat (List.length ((fromL (roundsL n.toNat) l).take (((((List.length (fromL (roundsL n.toNat) l)) : Nat) : Int) - (1 : Int))).toNat))) s15 a19 (.tmp 48) := D15.kt q87 rfl
       have q99 : At (Ty.val (a18.eval (.tmp 11))) s15 a19 (.tmp 53) := D15.done 0 (by decide)
       have q100 : At (Ty.sl 1 1 [(Ty.lst Ty.int (byL ((powL n.toNat (headL n.toNat l) k)) ((((fromL (roundsL n.toNat) l).take (((((List.length (fromL (roundsL n.toNat) l)) : Nat) : Int) - (1 : Int))).toNat).getD j []))))]) s15 a19 (.tmp 57) := D15.done 4 (by decide)
       clear D15
       refine tail_step (m := 2) (R := (fun v τ => Own τ 2 22 1 v ((List.length (crs n.toNat l (k * l.length + j))) + 1) ((List.map Ty.ints (crs n.toNat l (k * l.length + j))) ++ [(Ty.lst Ty.int (byL ((powL n.toNat (headL n.toNat l) k)) ((((fromL (roundsL n.toNat) l).take (((((List.length (fromL (roundsL n.toNat) l)) : Nat) : Int) - (1 : Int))).toNat).getD j []))))]))) rfl rfl (by decide) ok17 (m_append Try.underlying24 Try.inf22 (by decide) rfl (by decide) (al q99 q89) q100 (by intro U hU; simp at hU;  subst hU; exact one_sl) (by omega) (by omega)) (fun a20 s16 hs1 ok18 r1 sm1 => ?_)
       have F18 := F17.step hs1 (by decide)
       have q101 : At (Ty.nat j) s16 a20 (.tmp 49) := kpm hs1 (by decide) (sm1 49 (by decide)) q90
       have q102 : At (Ty.nat k) s16 a20 (.tmp 41) := kpm hs1 (by decide) (sm1 41 (by decide)) q92
       have q103 : At (Ty.lst Ty.int (powL n.toNat (headL n.toNat l) k)) s16 a20 (.tmp 9) := kpm hs1 (by decide) (sm1 9 (by decide)) q93
       have q104 : At (Ty.lst Ty.ints (fromL (roundsL n.toNat) l)) s16 a20 (.tmp 4) := kpm hs1 (by decide) (sm1 4 (by decide)) q94
       have q105 : At (Ty.lst Ty.int (headL n.toNat l)) s16 a20 (.tmp 6) := kpm hs1 (by decide) (sm1 6 (by decide)) q95
       have q106 : At (Ty.nat (ordL (headL n.toNat l))) s16 a20 (.tmp 40) := kpm hs1 (by decide) (sm1 40 (by decide)) q96
       have q107 : At (Ty.lst Ty.ints ((fromL (roundsL n.toNat) l).take (((((List.length (fromL (roundsL n.toNat) l)) : Nat) : Int) - (1 : Int))).toNat)) s16 a20 (.tmp 47) := kpm hs1 (by decide) (sm1 47 (by decide)) q97
       have q108 : At (Ty.nat (List.length ((fromL (roundsL n.toNat) l).take (((((List.length (fromL (roundsL n.toNat) l)) : Nat) : Int) - (1 : Int))).toNat))) s16 a20 (.tmp 48) := kpm hs1 (by decide) (sm1 48 (by decide)) q98
       have q109 : At (Ty.sl 1 1 [(Ty.lst Ty.int (byL ((powL n.toNat (headL n.toNat l) k)) ((((fromL (roundsL n.toNat) l).take (((((List.length (fromL (roundsL n.toNat) l)) : Nat) : Int) - (1 : Int))).toNat).getD j []))))]) s16 a20 (.tmp 57) := kpm hs1 (by decide) (sm1 57 (by decide)) q100
       have q110 : (Pr.own 2 22 1 (List.length ((crs n.toNat l (k * l.length + j)) ++ [(byL ((powL n.toNat (headL n.toNat l) k)) ((((fromL (roundsL n.toNat) l).take (((((List.length (fromL (roundsL n.toNat) l)) : Nat) : Int) - (1 : Int))).toNat).getD j [])))])) (List.map Ty.ints ((crs n.toNat l (k * l.length + j)) ++ [(byL ((powL n.toNat (headL n.toNat l) k)) ((((fromL (roundsL n.toNat) l).take (((((List.length (fromL (roundsL n.toNat) l)) : Nat) : Int) - (1 : Int))).toNat).getD j [])))]))).has s16 (a20.eval (.tmp 58)) := (cvo (by simp) (by simp) r1)
       refine tail_step (m := 0) (R := (fun v τ => Pr.has (Pr.own 2 22 1 (List.length ((crs n.toNat l (k * l.length + j)) ++ [(byL ((powL n.toNat (headL n.toNat l) k)) ((((fromL (roundsL n.toNat) l).take (((((List.length (fromL (roundsL n.toNat) l)) : Nat) : Int) - (1 : Int))).toNat).getD j [])))])) (List.map Ty.ints ((crs n.toNat l (k * l.length + j)) ++ [(byL ((powL n.toNat (headL n.toNat l) k)) ((((fromL (roundsL n.toNat) l).take (((((List.length (fromL (roundsL n.toNat) l)) : Nat) : Int) - (1 : Int))).toNat).getD j [])))]))) τ v)) rfl rfl (by decide) ok18 (Yld.toM (y_assign q110)) (fun a21 s17 hs2 ok19 r2 sm2 => ?_)
       have F19 := F18.step hs2 (by decide)
       have q111 : At (Ty.nat j) s17 a21 (.tmp 49) := kpm hs2 (by decide) (sm2 49 (by decide)) q101
       have q112 : At (Ty.nat k) s17 a21 (.tmp 41) := kpm hs2 (by decide) (sm2 41 (by decide)) q102
       have q113 : At (Ty.lst Ty.int (powL n.toNat (headL n.toNat l) k)) s17 a21 (.tmp 9) := kpm hs2 (by decide) (sm2 9 (by decide)) q103
       have q114 : At (Ty.lst Ty.ints (fromL (roundsL n.toNat) l)) s17 a21 (.tmp 4) := kpm hs2 (by decide) (sm2 4 (by decide)) q104
       have q115 : At (Ty.lst Ty.int (headL n.toNat l)) s17 a21 (.tmp 6) := kpm hs2 (by decide) (sm2 6 (by decide)) q105
       have q116 : At (Ty.nat (ordL (headL n.toNat l))) s17 a21 (.tmp 40) := kpm hs2 (by decide) (sm2 40 (by decide)) q106
       have q117 : At (Ty.lst Ty.ints ((fromL (roundsL n.toNat) l).take (((((List.length (fromL (roundsL n.toNat) l)) : Nat) : Int) - (1 : Int))).toNat)) s17 a21 (.tmp 47) := kpm hs2 (by decide) (sm2 47 (by decide)) q107
       have q118 : At (Ty.nat (List.length ((fromL (roundsL n.toNat) l).take (((((List.length (fromL (roundsL n.toNat) l)) : Nat) : Int) - (1 : Int))).toNat))) s17 a21 (.tmp 48) := kpm hs2 (by decide) (sm2 48 (by decide)) q108
       have q119 : At (Ty.sl 1 1 [(Ty.lst Ty.int (byL ((powL n.toNat (headL n.toNat l) k)) ((((fromL (roundsL n.toNat) l).take (((((List.length (fromL (roundsL n.toNat) l)) : Nat) : Int) - (1 : Int))).toNat).getD j []))))]) s17 a21 (.tmp 57) := kpm hs2 (by decide) (sm2 57 (by decide)) q109
       have q120 : (Pr.own 2 22 1 (List.length ((crs n.toNat l (k * l.length + j)) ++ [(byL ((powL n.toNat (headL n.toNat l) k)) ((((fromL (roundsL n.toNat) l).take (((((List.length (fromL (roundsL n.toNat) l)) : Nat) : Int) - (1 : Int))).toNat).getD j [])))])) (List.map Ty.ints ((crs n.toNat l (k * l.length + j)) ++ [(byL ((powL n.toNat (headL n.toNat l) k)) ((((fromL (roundsL n.toNat) l).take (((((List.length (fromL (roundsL n.toNat) l)) : Nat) : Int) - (1 : Int))).toNat).getD j [])))]))).has s17 (a21.eval (.tmp 58)) := kpmo hs2 (by decide) (.inl rfl) (sm2 58 (by decide)) q110
       have q121 : (Pr.own 2 22 1 (List.length ((crs n.toNat l (k * l.length + j)) ++ [(byL ((powL n.toNat (headL n.toNat l) k)) ((((fromL (roundsL n.toNat) l).take (((((List.length (fromL (roundsL n.toNat) l)) : Nat) : Int) - (1 : Int))).toNat).getD j [])))])) (List.map Ty.ints ((crs n.toNat l (k * l.length + j)) ++ [(byL ((powL n.toNat (headL n.toNat l) k)) ((((fromL (roundsL n.toNat) l).take (((((List.length (fromL (roundsL n.toNat) l)) : Nat) : Int) - (1 : Int))).toNat).getD j [])))]))).has s17 (a21.eval (.tmp 11)) := r2
       refine wpList_nil ?_
       refine bn ?_
       refine tn ?_
       refine reg (a := a21) (σ := s17) rfl (fun i_ => List.getD [(Ty.pr (Ty.int (((j : Nat) : Int) + (1 : Int)))), (Ty.pr (Ty.int (((j : Nat) : Int) + (1 : Int))))] i_ Pr.any) ok19 rfl ⟨?_, ?_, trivial⟩ ?_
       · intro ax tx hs okx sm
         exact run_plain rfl (y_add (kp (sm 49 rfl) hs q111) rfl (w64 (by omega) (by omega)))
       · intro ax tx hs okx sm d0
         have e0 : At (Ty.int (((j : Nat) : Int) + (1 : Int))) tx ax (.tmp 59) := d0 rfl
         exact run_plain rfl (y_move e0)
       intro a22 s18 D16
       have ok20 := D16.ok
       have F20 := F19.step0 D16.stp
       have q122 : At (Ty.nat k) s18 a22 (.tmp 41) := D16.kt q112 rfl
       have q123 : At (Ty.lst Ty.int (powL n.toNat (headL n.toNat l) k)) s18 a22 (.tmp 9) := D16.kt q113 rfl
       have q124 : At (Ty.lst Ty.ints (fromL (roundsL n.toNat) l)) s18 a22 (.tmp 4) := D16.kt q114 rfl
       have q125 : At (Ty.lst Ty.int (headL n.toNat l)) s18 a22 (.tmp 6) := D16.kt q115 rfl
       have q126 : At (Ty.nat (ordL (headL n.toNat l))) s18 a22 (.tmp 40) := D16.kt q116 rfl
       have q127 : At (Ty.lst Ty.ints ((fromL (roundsL n.toNat) l).take (((((List.length (fromL (roundsL n.toNat) l)) : Nat) : Int) - (1 : Int))).toNat)) s18 a22 (.tmp 47) := D16.kt q117 rfl
       have q128 : At (Ty.nat (List.length ((fromL (roundsL n.toNat) l).take (((((List.length (fromL (roundsL n.toNat) l)) : Nat) : Int) - (1 : Int))).toNat))) s18 a22 (.tmp 48) := D16.kt q118 rfl
       have q129 : (Pr.own 2 22 1 (List.length ((crs n.toNat l (k * l.length + j)) ++ [(byL ((powL n.toNat (headL n.toNat l) k)) ((((fromL (roundsL n.toNat) l).take (((((List.length (fromL (roundsL n.toNat) l)) : Nat) : Int) - (1 : Int))).toNat).getD j [])))])) (List.map Ty.ints ((crs n.toNat l (k * l.length + j)) ++ [(byL ((powL n.toNat (headL n.toNat l) k)) ((((fromL (roundsL n.toNat) l).take (((((List.length (fromL (roundsL n.toNat) l)) : Nat) : Int) - (1 : Int))).toNat).getD j [])))]))).has s18 (a22.eval (.tmp 11)) := D16.ko q121 rfl
       have q130 : At (Ty.int (((j : Nat) : Int) + (1 : Int))) s18 a22 (.tmp 49) := D16.done 1
       clear D16
       exact tn ⟨l.length - ((j+1)), by omega, s18, (j+1), rfl, F20, ok20, (cvi (by (first | rfl | omega | (simp_all; done) | (simp_all; omega))) q130), (cvo (by (rw [htk, ← Nat.add_assoc, crs_succ _ _ _ _ (by omega)])) (by (rw [htk, ← Nat.add_assoc, crs_succ _ _ _ _ (by omega)])) q129), q122, q123, q124, q125, q126, q127, q128, by omega, rfl⟩
      ·
       have hbh := hhr.bds; have hbh2 : ∀ i, i < (headL n.toNat l).length → 0 ≤ (headL n.toNat l).getD i 0 ∧ (headL n.toNat l).getD i 0 < ((powL n.toNat (headL n.toNat l) k).length : Int) := (fun i hi => by have := hbh i hi; omega); have hle2 : (powL n.toNat (headL n.toNat l) k).length = (headL n.toNat l).length := (by omega); have hpl2 : (powL n.toNat (headL n.toNat l) k).length ≤ 12 := (by omega); have ej : j = l.length := (by omega)
       refine wp_exit ?_
       refine tx ?_
       refine tx ?_
       refine bx ?_
       refine tn ?_
       refine reg (a := a17) (σ := s13) rfl (fun i_ => List.getD [(Ty.pr (Ty.lst Ty.int (powL n.toNat (headL n.toNat l) k))), (Ty.pr (Ty.lst Ty.int (headL n.toNat l))), (Ty.pr (Ty.lst Ty.int (byL ((powL n.toNat (headL n.toNat l) k)) ((headL n.toNat l))))), (Ty.pr (Ty.lst Ty.int (byL ((powL n.toNat (headL n.toNat l) k)) ((headL n.toNat l)))))] i_ Pr.any) ok15 rfl ⟨?_, ?_, ?_, ?_, trivial⟩ ?_
       · intro ax tx hs okx sm
         exact run_plain rfl (y_move (kp (sm 9 rfl) hs q72))
       · intro ax tx hs okx sm
         exact run_plain rfl (y_move (kp (sm 6 rfl) hs q74))
       · intro ax tx hs okx sm d0 d1
         have e0 : At (Ty.lst Ty.int (powL n.toNat (headL n.toNat l) k)) tx ax (.tmp 60) := d0 rfl
         have e1 : At (Ty.lst Ty.int (headL n.toNat l)) tx ax (.tmp 61) := d1 rfl
         exact run_plain rfl (y_call #[ax.eval (.tmp 60), ax.eval (.tmp 61)] Try.func35 rfl rfl (by simp only [List.map_toArray, List.map_cons, List.map_nil]) (product_fn ((powL n.toNat (headL n.toNat l) k)) ((headL n.toNat l)) _ _ _ e0 e1 (by first | assumption | omega) (by first | assumption | omega) (by first | assumption | omega)))
       · intro ax tx hs okx sm d0 d1 d2 d3 d4
         have e2 : At (Ty.lst Ty.int (byL ((powL n.toNat (headL n.toNat l) k)) ((headL n.toNat l)))) tx ax (.tmp 62) := d0 rfl
         have e0 : At (Ty.lst Ty.int (powL n.toNat (headL n.toNat l) k)) tx ax (.tmp 60) := d2 rfl
         have e1 : At (Ty.lst Ty.int (headL n.toNat l)) tx ax (.tmp 61) := d3 rfl
         exact run_plain rfl (y_assign e2)
       intro a23 s19 D17
       have ok21 := D17.ok
       have F21 := F15.step0 D17.stp
       have q131 : (Pr.own 2 22 1 (List.length (crs n.toNat l (k * l.length + j))) (List.map Ty.ints (crs n.toNat l (k * l.length + j)))).has s19 (a23.eval (.tmp 11)) := D17.ko q70 rfl
       have q132 : At (Ty.nat k) s19 a23 (.tmp 41) := D17.kt q71 rfl
       have q133 : At (Ty.lst Ty.ints (fromL (roundsL n.toNat) l)) s19 a23 (.tmp 4) := D17.kt q73 rfl
       have q134 : At (Ty.lst Ty.int (headL n.toNat l)) s19 a23 (.tmp 6) := D17.kt q74 rfl
       have q135 : At (Ty.nat (ordL (headL n.toNat l))) s19 a23 (.tmp 40) := D17.kt q75 rfl
       have q136 : At (Ty.lst Ty.int (byL ((powL n.toNat (headL n.toNat l) k)) ((headL n.toNat l)))) s19 a23 (.tmp 9) := D17.done 3
       clear D17
       refine bn ?_
       refine tn ?_
       refine reg (a := a23) (σ := s19) rfl (fun i_ => List.getD [(Ty.pr (Ty.int (((k : Nat) : Int) + (1 : Int)))), (Ty.pr (Ty.int (((k : Nat) : Int) + (1 : Int))))] i_ Pr.any) ok21 rfl ⟨?_, ?_, trivial⟩ ?_
       · intro ax tx hs okx sm
         exact run_plain rfl (y_add (kp (sm 41 rfl) hs q132) rfl (w64 (by omega) (by omega)))
       · intro ax tx hs okx sm d0
         have e0 : At (Ty.int (((k : Nat) : Int) + (1 : Int))) tx ax (.tmp 63) := d0 rfl
         exact run_plain rfl (y_move e0)
       intro a24 s20 D18
       have ok22 := D18.ok
       have F22 := F21.step0 D18.stp
       have q137 : (Pr.own 2 22 1 (List.length (crs n.toNat l (k * l.length + j))) (List.map Ty.ints (crs n.toNat l (k * l.length + j)))).has s20 (a24.eval (.tmp 11)) := D18.ko q131 rfl
       have q138 : At (Ty.lst Ty.ints (fromL (roundsL n.toNat) l)) s20 a24 (.tmp 4) := D18.kt q133 rfl
       have q139 : At (Ty.lst Ty.int (headL n.toNat l)) s20 a24 (.tmp 6) := D18.kt q134 rfl
       have q140 : At (Ty.nat (ordL (headL n.toNat l))) s20 a24 (.tmp 40) := D18.kt q135 rfl
       have q141 : At (Ty.lst Ty.int (byL ((powL n.toNat (headL n.toNat l) k)) ((headL n.toNat l)))) s20 a24 (.tmp 9) := D18.kt q136 rfl
       have q142 : At (Ty.int (((k : Nat) : Int) + (1 : Int))) s20 a24 (.tmp 41) := D18.done 1
       clear D18
       exact tn ⟨(ordL (headL n.toNat l)) - ((k+1)), by omega, s20, (k+1), rfl, F22, ok22, (cvi (by (first | rfl | omega | (simp_all; done) | (simp_all; omega))) q142), (cvt (by (rfl)) q141), (cvo (by (rw [Nat.succ_mul, ej])) (by (rw [Nat.succ_mul, ej])) q137), q138, q139, q140, by omega, rfl⟩
    ·
     refine wp_exit ?_
     refine tx ?_
     refine tx ?_
     refine bx ?_
     refine tn ?_
     refine wp_seq ?_
     refine reg (a := a13) (σ := s11) rfl (fun i_ => List.getD [(Ty.pr (Ty.val (a13.eval (.tmp 11)))), (Ty.pr (Ty.val (a13.eval (.tmp 11)))), (Ty.pr (Ty.int (0 : Int)))] i_ Pr.any) ok12 rfl ⟨?_, ?_, ?_, trivial⟩ ?_
     · intro ax tx hs okx sm
       exact run_plain rfl (y_move (sm 11 rfl))
     · intro ax tx hs okx sm d0 d1
       have e0 : At (Ty.val (a13.eval (.tmp 11))) tx ax (.tmp 64) := d0 rfl
       exact run_plain rfl (y_assign e0)
     · intro ax tx hs okx sm d0 d1 d2
       have e1 : At (Ty.val (a13.eval (.tmp 11))) tx ax (.tmp 2) := d0 rfl
       have e0 : At (Ty.val (a13.eval (.tmp 11))) tx ax (.tmp 64) := d1 rfl
       exact run_plain rfl (y_assign rfl)
     intro a25 s21 D19
     have ok23 := D19.ok
     have F23 := F12.step0 D19.stp
     have q143 : (Pr.own 2 22 1 (List.length (crs n.toNat l (k * l.length))) (List.map Ty.ints (crs n.toNat l (k * l.length)))).has s21 (a25.eval (.tmp 2)) := al (show _ = _ from D19.done 1) ((Pr.own 2 22 1 (List.length (crs n.toNat l (k * l.length))) (List.map Ty.ints (crs n.toNat l (k * l.length)))).up D19.stp q46)
     have q144 : At (Ty.int (0 : Int)) s21 a25 (.tmp 3) := D19.done 2
     clear D19
     refine tn ?_
     refine wp_ret ?_
     obtain ⟨t5, e1, h1, q145⟩ := Own.seal q143 (by decide)
     rw [← e1]
     have F24 := F23.step h1 (by decide)
     have q146 := Ty.up (Ty.int (0 : Int)) (h1.le (by decide)) q144
     exact ret2 rfl ok23 F24 (cvt (by (rw [hcm, if_pos rfl]; obtain rfl : k = ordL (headL n.toNat l) := (by omega); rfl)) q145) (cvi (by (exact hcm.symm)) q146)


set_option maxRecDepth 100000 in
theorem rRounds_fn (n : Nat) (σ : GW) (v0 : Value) (hv0 : Ty.has (Ty.nat n) σ v0) (hn : n ≤ 1000000) :
    FnC Try.prog 19 #[v0] σ (Ty.lst Ty.int (roundsL n)) := by
 refine fn_intro Try.func19 rfl Try.ntmps19 (Nat.le_of_ble_eq_true rfl) (fun s0 a0 hle F0 ok0 hargs => ?_)
 have p0 : At (Ty.nat n) s0 a0 (.tmp 0) := by have e := hargs 0 _ rfl; show Ty.has _ _ _; rw [e]; exact Ty.up _ hle hv0
 clear hargs
 refine wp_seq ?_
 refine reg (a := a0) (σ := s0) rfl (fun i_ => List.getD [(Ty.pr (Ty.val (Value.slice none 0 0)))] i_ Pr.any) ok0 rfl ⟨?_, trivial⟩ ?_
 · intro ax tx hs okx sm
   exact run_plain rfl (y_assign rfl)
 intro a1 s1 D1
 have ok1 := D1.ok
 have F1 := F0.step0 D1.stp
 have q1 : At (Ty.nat n) s1 a1 (.tmp 0) := D1.kt p0 rfl
 clear D1
 refine tn ?_
 refine wp_seq ?_
 refine reg (a := a1) (σ := s1) rfl (fun i_ => List.getD [(Ty.pr (Ty.val (Value.slice none 0 0)))] i_ Pr.any) ok1 rfl ⟨?_, trivial⟩ ?_
 · intro ax tx hs okx sm
   exact run_plain rfl (y_assign rfl)
 intro a2 s2 D2
 have ok2 := D2.ok
 have F2 := F1.step0 D2.stp
 have q2 : At (Ty.nat n) s2 a2 (.tmp 0) := D2.kt q1 rfl
 have q3 : At (Ty.val (Value.slice none 0 0)) s2 a2 (.tmp 3) := D2.done 0
 clear D2
 refine tn ?_
 refine wp_seq ?_
 refine wp_seq ?_
 refine reg (a := a2) (σ := s2) rfl (fun i_ => List.getD [(Ty.pr (Ty.int (0 : Int)))] i_ Pr.any) ok2 rfl ⟨?_, trivial⟩ ?_
 · intro ax tx hs okx sm
   exact run_plain rfl (y_assign rfl)
 intro a3 s3 D3
 have ok3 := D3.ok
 have F3 := F2.step0 D3.stp
 have q4 : At (Ty.nat n) s3 a3 (.tmp 0) := D3.kt q2 rfl
 have q5 : At (Ty.val (Value.slice none 0 0)) s3 a3 (.tmp 3) := D3.kt q3 rfl
 have q6 : At (Ty.int (0 : Int)) s3 a3 (.tmp 4) := D3.done 0
 clear D3
 refine tn ?_
 refine wp_block ?_
 refine loop (fun n1 a4 w1 => ∃ (t1 : GW) (k : Nat), t1.w = w1 ∧ From s0 t1 ∧ Ok 15 a4 ∧ (Pr.own 2 3 1 (List.length (roundsL k)) (List.map Ty.int (roundsL k))).has t1 (a4.eval (.tmp 3)) ∧ At (Ty.nat k) t1 a4 (.tmp 4) ∧ At (Ty.nat n) t1 a4 (.tmp 0) ∧ (k ≤ n) ∧ n1 = n - k) (n - (0)) ?_ ?_
 ·
  exact ⟨s3, 0, rfl, F3, ok3, (by have e : a3.eval (.tmp 3) = _ := q5; rw [e]; exact Own.nil _ _ _ _), (cvi (by (first | rfl | omega | (simp_all; done) | (simp_all; omega))) q6), q4, by omega, rfl⟩
 ·
  rintro n2 a5 w2 ⟨t2, k, rfl, F4, ok4, q7, q8, q9, hk, rfl⟩
  have hp := roundsL_len k
  refine wp_seq ?_
  refine wp_seq ?_
  refine reg (a := a5) (σ := t2) rfl (fun i_ => List.getD [(Ty.pr (Ty.nat k)), (Ty.pr (Ty.nat n)), (Ty.pr (Ty.bool (decide (((k : Nat) : Int) < ((n : Nat) : Int)))))] i_ Pr.any) ok4 rfl ⟨?_, ?_, ?_, trivial⟩ ?_
  · intro ax tx hs okx sm
    exact run_plain rfl (y_move (kp (sm 4 rfl) hs q8))
  · intro ax tx hs okx sm
    exact run_plain rfl (y_move (kp (sm 0 rfl) hs q9))
  · intro ax tx hs okx sm d0 d1
    have e0 : At (Ty.nat k) tx ax (.tmp 5) := d0 rfl
    have e1 : At (Ty.nat n) tx ax (.tmp 6) := d1 rfl
    exact run_plain rfl (y_lss e0 e1)
  intro a6 s4 D4
  have ok5 := D4.ok
  have F5 := F4.step0 D4.stp
  have q10 : (Pr.own 2 3 1 (List.length (roundsL k)) (List.map Ty.int (roundsL k))).has s4 (a6.eval (.tmp 3)) := D4.ko q7 rfl
  have q11 : At (Ty.nat k) s4 a6 (.tmp 4) := D4.kt q8 rfl
  have q12 : At (Ty.nat n) s4 a6 (.tmp 0) := D4.kt q9 rfl
  have q13 : At (Ty.bool (decide (((k : Nat) : Int) < ((n : Nat) : Int)))) s4 a6 (.tmp 7) := D4.done 2
  clear D4
  refine tn ?_
  refine cond_p (p := (((k : Nat) : Int) < ((n : Nat) : Int))) q13 (fun c1 => ?_) (fun c1 => ?_)
  ·
   refine wp_skip ?_
   refine tn ?_
   refine wp_seq ?_
   refine wp_block ?_
   refine reg2 (a := a6) (σ := s4) rfl 3 (fun i_ => List.getD [(Ty.pr (Ty.val (a6.eval (.tmp 3)))), (Ty.pr (Ty.nat k)), (Ty.pr (Ty.sl 1 1 [(Ty.nat k)]))] i_ Pr.any) ok5 rfl (by decide) rfl ⟨?_, ?_, ?_, trivial⟩ ?_
   · intro ax tx hs okx sm
     exact run_plain rfl (y_move (sm 3 rfl))
   · intro ax tx hs okx sm
     exact run_plain rfl (y_move (kp (sm 4 rfl) hs q11))
   · intro ax tx hs okx sm d0
     have e1 : At (Ty.nat k) tx ax (.tmp 11) := d0 rfl
     exact run_plain rfl (y_build1o Try.underlying22 Try.inf3 rfl (one_val rfl) e1)
   intro a7 s5 D5
   have ok6 := D5.ok
   have F6 := F5.step0 D5.stp
   have q14 := (Pr.own 2 3 1 (List.length (roundsL k)) (List.map Ty.int (roundsL k))).up D5.stp q10
   have q15 : a7.eval (.tmp 3) = a6.eval (.tmp 3) := D5.same 3 rfl
   have q16 : At (Ty.nat k) s5 a7 (.tmp 4) := D5.kt q11 rfl
   have q17 : At (Ty.nat n) s5 a7 (.tmp 0) := D5.kt q12 rfl
   have q18 : At (Ty.val (a6.eval (.tmp 3))) s5 a7 (.tmp 10) := D5.done 0 (by decide)
   have q19 : At (Ty.sl 1 1 [(Ty.nat k)]) s5 a7 (.tmp 12) := D5.done 2 (by decide)
   clear D5
   refine tail_step (m := 2) (R := (fun v τ => Own τ 2 3 1 v ((List.length (roundsL k)) + 1) ((List.map Ty.int (roundsL k)) ++ [(Ty.nat k)]))) rfl rfl (by decide) ok6 (m_append Try.underlying22 Try.inf3 (by decide) rfl (by decide) (al q18 q14) q19 (by intro U hU; simp at hU;  subst hU; exact one_val rfl) (by omega) (by omega)) (fun a8 s6 hs1 ok7 r1 sm1 => ?_)
   have F7 := F6.step hs1 (by decide)
   have q20 : At (Ty.nat k) s6 a8 (.tmp 4) := kpm hs1 (by decide) (sm1 4 (by decide)) q16
   have q21 : At (Ty.nat n) s6 a8 (.tmp 0) := kpm hs1 (by decide) (sm1 0 (by decide)) q17
   have q22 : At (Ty.sl 1 1 [(Ty.nat k)]) s6 a8 (.tmp 12) := kpm hs1 (by decide) (sm1 12 (by decide)) q19
   have q23 : (Pr.own 2 3 1 (List.length ((roundsL k) ++ [((k : Nat) : Int)])) (List.map Ty.int ((roundsL k) ++ [((k : Nat) : Int)]))).has s6 (a8.eval (.tmp 13)) := (cvo (by simp) (by simp) r1)
   refine tail_step (m := 0) (R := (fun v τ => Pr.has (Pr.own 2 3 1 (List.length ((roundsL k) ++ [((k : Nat) : Int)])) (List.map Ty.int ((roundsL k) ++ [((k : Nat) : Int)]))) τ v)) rfl rfl (by decide) ok7 (Yld.toM (y_assign q23)) (fun a9 s7 hs2 ok8 r2 sm2 => ?_)
   have F8 := F7.step hs2 (by decide)
   have q24 : At (Ty.nat k) s7 a9 (.tmp 4) := kpm hs2 (by decide) (sm2 4 (by decide)) q20
   have q25 : At (Ty.nat n) s7 a9 (.tmp 0) := kpm hs2 (by decide) (sm2 0 (by decide)) q21
   have q26 : At (Ty.sl 1 1 [(Ty.nat k)]) s7 a9 (.tmp 12) := kpm hs2 (by decide) (sm2 12 (by decide)) q22
   have q27 : (Pr.own 2 3 1 (List.length ((roundsL k) ++ [((k : Nat) : Int)])) (List.map Ty.int ((roundsL k) ++ [((k : Nat) : Int)]))).has s7 (a9.eval (.tmp 13)) := kpmo hs2 (by decide) (.inl rfl) (sm2 13 (by decide)) q23
   have q28 : (Pr.own 2 3 1 (List.length ((roundsL k) ++ [((k : Nat) : Int)])) (List.map Ty.int ((roundsL k) ++ [((k : Nat) : Int)]))).has s7 (a9.eval (.tmp 3)) := r2
   refine wpList_nil ?_
   refine bn ?_
   refine tn ?_
   refine reg (a := a9) (σ := s7) rfl (fun i_ => List.getD [(Ty.pr (Ty.nat k)), (Ty.pr (Ty.int (((k : Nat) : Int) + (1 : Int)))), (Ty.pr (Ty.int (((k : Nat) : Int) + (1 : Int))))] i_ Pr.any) ok8 rfl ⟨?_, ?_, ?_, trivial⟩ ?_
   · intro ax tx hs okx sm
     exact run_plain rfl (y_move (kp (sm 4 rfl) hs q24))
   · intro ax tx hs okx sm d0
     have e0 : At (Ty.nat k) tx ax (.tmp 8) := d0 rfl
     exact run_plain rfl (y_add e0 rfl (w64 (by omega) (by omega)))
   · intro ax tx hs okx sm d0 d1 d2
     have e1 : At (Ty.int (((k : Nat) : Int) + (1 : Int))) tx ax (.tmp 9) := d0 rfl
     have e0 : At (Ty.nat k) tx ax (.tmp 8) := d1 rfl
     exact run_plain rfl (y_assign e1)
   intro a10 s8 D6
   have ok9 := D6.ok
   have F9 := F8.step0 D6.stp
   have q29 : At (Ty.nat n) s8 a10 (.tmp 0) := D6.kt q25 rfl
   have q30 : (Pr.own 2 3 1 (List.length ((roundsL k) ++ [((k : Nat) : Int)])) (List.map Ty.int ((roundsL k) ++ [((k : Nat) : Int)]))).has s8 (a10.eval (.tmp 3)) := D6.ko q28 rfl
   have q31 : At (Ty.int (((k : Nat) : Int) + (1 : Int))) s8 a10 (.tmp 4) := D6.done 2
   clear D6
   exact tn ⟨n - ((k+1)), by omega, s8, (k+1), rfl, F9, ok9, (cvo (by (rw [roundsL_succ k])) (by (rw [roundsL_succ k])) q30), (cvi (by (first | rfl | omega | (simp_all; done) | (simp_all; omega))) q31), q29, by omega, rfl⟩
  ·
   refine wp_exit ?_
   refine tx ?_
   refine tx ?_
   refine bx ?_
   refine tn ?_
   refine wp_seq ?_
   refine reg (a := a6) (σ := s4) rfl (fun i_ => List.getD [(Ty.pr (Ty.val (a6.eval (.tmp 3)))), (Ty.pr (Ty.val (a6.eval (.tmp 3))))] i_ Pr.any) ok5 rfl ⟨?_, ?_, trivial⟩ ?_
   · intro ax tx hs okx sm
     exact run_plain rfl (y_move (sm 3 rfl))
   · intro ax tx hs okx sm d0 d1
     have e0 : At (Ty.val (a6.eval (.tmp 3))) tx ax (.tmp 14) := d0 rfl
     exact run_plain rfl (y_assign e0)
   intro a11 s9 D7
   have ok10 := D7.ok
   have F10 := F5.step0 D7.stp
   have q32 : (Pr.own 2 3 1 (List.length (roundsL k)) (List.map Ty.int (roundsL k))).has s9 (a11.eval (.tmp 2)) := al (show _ = _ from D7.done 1) ((Pr.own 2 3 1 (List.length (roundsL k)) (List.map Ty.int (roundsL k))).up D7.stp q10)
   clear D7
   refine tn ?_
   refine wp_ret ?_
   obtain ⟨t3, e1, h1, q33⟩ := Own.seal q32 (by decide)
   rw [← e1]
   have F11 := F10.step h1 (by decide)
   exact ret1 rfl ok10 F11 (cvt (by (obtain rfl : k = n := (by omega); rfl)) q33)


set_option maxRecDepth 100000 in
theorem rsame_fn (xs : List Int) (ys : List Int) (σ : GW) (v0 v1 : Value) (hv0 : Ty.has (Ty.lst Ty.int xs) σ v0) (hv1 : Ty.has (Ty.lst Ty.int ys) σ v1)  :
    FnC Try.prog 18 #[v0, v1] σ (Ty.bool (decide (xs = ys))) := by
 refine fn_intro Try.func18 rfl Try.ntmps18 (Nat.le_of_ble_eq_true rfl) (fun s0 a0 hle F0 ok0 hargs => ?_)
 have p0 : At (Ty.lst Ty.int xs) s0 a0 (.tmp 0) := by have e := hargs 0 _ rfl; show Ty.has _ _ _; rw [e]; exact Ty.up _ hle hv0
 have b1 := sl_le p0
 have p1 : At (Ty.lst Ty.int ys) s0 a0 (.tmp 1) := by have e := hargs 1 _ rfl; show Ty.has _ _ _; rw [e]; exact Ty.up _ hle hv1
 have b2 := sl_le p1
 clear hargs
 refine wp_seq ?_
 refine reg (a := a0) (σ := s0) rfl (fun i_ => List.getD [(Ty.pr (Ty.bool false))] i_ Pr.any) ok0 rfl ⟨?_, trivial⟩ ?_
 · intro ax tx hs okx sm
   exact run_plain rfl (y_assign rfl)
 intro a1 s1 D1
 have ok1 := D1.ok
 have F1 := F0.step0 D1.stp
 have q1 : At (Ty.lst Ty.int xs) s1 a1 (.tmp 0) := D1.kt p0 rfl
 have q2 : At (Ty.lst Ty.int ys) s1 a1 (.tmp 1) := D1.kt p1 rfl
 clear D1
 refine tn ?_
 refine wp_seq ?_
 refine wp_seq ?_
 refine reg (a := a1) (σ := s1) rfl (fun i_ => List.getD [(Ty.pr (Ty.lst Ty.int xs)), (Ty.pr (Ty.nat (List.length xs))), (Ty.pr (Ty.lst Ty.int ys)), (Ty.pr (Ty.nat (List.length ys))), (Ty.pr (Ty.bool (decide ((((List.length xs) : Nat) : Int) ≠ (((List.length ys) : Nat) : Int)))))] i_ Pr.any) ok1 rfl ⟨?_, ?_, ?_, ?_, ?_, trivial⟩ ?_
 · intro ax tx hs okx sm
   exact run_plain rfl (y_move (kp (sm 0 rfl) hs q1))
 · intro ax tx hs okx sm d0
   have e0 : At (Ty.lst Ty.int xs) tx ax (.tmp 6) := d0 rfl
   exact run_plain rfl (y_len Try.underlying22 e0)
 · intro ax tx hs okx sm
   exact run_plain rfl (y_move (kp (sm 1 rfl) hs q2))
 · intro ax tx hs okx sm d0
   have e2 : At (Ty.lst Ty.int ys) tx ax (.tmp 8) := d0 rfl
   exact run_plain rfl (y_len Try.underlying22 e2)
 · intro ax tx hs okx sm d0 d1
   have e1 : At (Ty.nat (List.length xs)) tx ax (.tmp 7) := d0 rfl
   have e3 : At (Ty.nat (List.length ys)) tx ax (.tmp 9) := d1 rfl
   exact run_plain rfl (y_neq e1 e3)
 intro a2 s2 D2
 have ok2 := D2.ok
 have F2 := F1.step0 D2.stp
 have q3 : At (Ty.lst Ty.int xs) s2 a2 (.tmp 0) := D2.kt q1 rfl
 have q4 : At (Ty.lst Ty.int ys) s2 a2 (.tmp 1) := D2.kt q2 rfl
 have q5 : At (Ty.bool (decide ((((List.length xs) : Nat) : Int) ≠ (((List.length ys) : Nat) : Int)))) s2 a2 (.tmp 10) := D2.done 4
 clear D2
 refine tn ?_
 refine cond_p (p := ((((List.length xs) : Nat) : Int) ≠ (((List.length ys) : Nat) : Int))) q5 (fun c1 => ?_) (fun c1 => ?_)
 ·
  refine wp_seq ?_
  refine reg (a := a2) (σ := s2) rfl (fun i_ => List.getD [(Ty.pr (Ty.bool false))] i_ Pr.any) ok2 rfl ⟨?_, trivial⟩ ?_
  · intro ax tx hs okx sm
    exact run_plain rfl (y_assign rfl)
  intro a3 s3 D3
  have ok3 := D3.ok
  have F3 := F2.step0 D3.stp
  have q6 : At (Ty.bool false) s3 a3 (.tmp 4) := D3.done 0
  clear D3
  refine tn ?_
  refine wp_ret ?_
  refine tr ?_
  exact ret1 rfl ok3 F3 (cvb (by (rw [decide_eq_false]; intro e; subst e; omega)) q6)
 ·
  refine wp_skip ?_
  refine tn ?_
  refine wp_seq ?_
  refine wp_seq ?_
  refine reg (a := a2) (σ := s2) rfl (fun i_ => List.getD [(Ty.pr (Ty.int (0 : Int)))] i_ Pr.any) ok2 rfl ⟨?_, trivial⟩ ?_
  · intro ax tx hs okx sm
    exact run_plain rfl (y_assign rfl)
  intro a4 s4 D4
  have ok4 := D4.ok
  have F4 := F2.step0 D4.stp
  have q7 : At (Ty.lst Ty.int xs) s4 a4 (.tmp 0) := D4.kt q3 rfl
  have q8 : At (Ty.lst Ty.int ys) s4 a4 (.tmp 1) := D4.kt q4 rfl
  have q9 : At (Ty.int (0 : Int)) s4 a4 (.tmp 5) := D4.done 0
  clear D4
  refine tn ?_
  refine wp_block ?_
  refine loop (fun n1 a5 w1 => ∃ (t1 : GW) (k : Nat), t1.w = w1 ∧ From s0 t1 ∧ Ok 26 a5 ∧ At (Ty.nat k) t1 a5 (.tmp 5) ∧ At (Ty.lst Ty.int xs) t1 a5 (.tmp 0) ∧ At (Ty.lst Ty.int ys) t1 a5 (.tmp 1) ∧ (k ≤ xs.length) ∧ (xs.length = ys.length) ∧ (∀ j, j < k → xs.getD j 0 = ys.getD j 0) ∧ n1 = xs.length - k) (xs.length - (0)) ?_ ?_
  ·
   exact ⟨s4, 0, rfl, F4, ok4, (cvi (by (first | rfl | omega | (simp_all; done) | (simp_all; omega))) q9), q7, q8, by omega, by omega, fun j hj => absurd hj (Nat.not_lt_zero j), rfl⟩
  ·
   rintro n2 a6 w2 ⟨t2, k, rfl, F5, ok5, q10, q11, q12, hk, hl, heq, rfl⟩
   refine wp_seq ?_
   refine wp_seq ?_
   refine reg (a := a6) (σ := t2) rfl (fun i_ => List.getD [(Ty.pr (Ty.nat k)), (Ty.pr (Ty.lst Ty.int xs)), (Ty.pr (Ty.nat (List.length xs))), (Ty.pr (Ty.bool (decide (((k : Nat) : Int) < (((List.length xs) : Nat) : Int)))))] i_ Pr.any) ok5 rfl ⟨?_, ?_, ?_, ?_, trivial⟩ ?_
   · intro ax tx hs okx sm
     exact run_plain rfl (y_move (kp (sm 5 rfl) hs q10))
   · intro ax tx hs okx sm
     exact run_plain rfl (y_move (kp (sm 0 rfl) hs q11))
   · intro ax tx hs okx sm d0
     have e1 : At (Ty.lst Ty.int xs) tx ax (.tmp 12) := d0 rfl
     exact run_plain rfl (y_len Try.underlying22 e1)
   · intro ax tx hs okx sm d0 d1
     have e0 : At (Ty.nat k) tx ax (.tmp 11) := d0 rfl
     have e2 : At (Ty.nat (List.length xs)) tx ax (.tmp 13) := d1 rfl
     exact run_plain rfl (y_lss e0 e2)
   intro a7 s5 D5
   have ok6 := D5.ok
   have F6 := F5.step0 D5.stp
   have q13 : At (Ty.nat k) s5 a7 (.tmp 5) := D5.kt q10 rfl
   have q14 : At (Ty.lst Ty.int xs) s5 a7 (.tmp 0) := D5.kt q11 rfl
   have q15 : At (Ty.lst Ty.int ys) s5 a7 (.tmp 1) := D5.kt q12 rfl
   have q16 : At (Ty.bool (decide (((k : Nat) : Int) < (((List.length xs) : Nat) : Int)))) s5 a7 (.tmp 14) := D5.done 3
   clear D5
   refine tn ?_
   refine cond_p (p := (((k : Nat) : Int) < (((List.length xs) : Nat) : Int))) q16 (fun c2 => ?_) (fun c2 => ?_)
   ·
    refine wp_skip ?_
    refine tn ?_
    refine wp_seq ?_
    refine wp_block ?_
    refine wp_seq ?_
    refine reg (a := a7) (σ := s5) rfl (fun i_ => List.getD [(Ty.pr (Ty.lst Ty.int xs)), (Ty.pr (Ty.nat k)), (Ty.pr (Ty.ref [(Ty.int (xs.getD k 0))])), (Ty.pr (Ty.int (xs.getD k 0))), (Ty.pr (Ty.lst Ty.int ys)), (Ty.pr (Ty.nat k)), (Ty.pr (Ty.ref [(Ty.int (ys.getD k 0))])), (Ty.pr (Ty.int (ys.getD k 0))), (Ty.pr (Ty.bool (decide ((xs.getD k 0) ≠ (ys.getD k 0)))))] i_ Pr.any) ok6 rfl ⟨?_, ?_, ?_, ?_, ?_, ?_, ?_, ?_, ?_, trivial⟩ ?_
    · intro ax tx hs okx sm
      exact run_plain rfl (y_move (kp (sm 0 rfl) hs q14))
    · intro ax tx hs okx sm
      exact run_plain rfl (y_move (kp (sm 5 rfl) hs q13))
    · intro ax tx hs okx sm d0 d1
      have e0 : At (Ty.lst Ty.int xs) tx ax (.tmp 17) := d0 rfl
      have e1 : At (Ty.nat k) tx ax (.tmp 18) := d1 rfl
      exact run_plain rfl (y_index1 Try.underlying22 Try.inf3 e0 e1 (by omega) (lst_get Ty.int xs 0 k (by omega)))
    · intro ax tx hs okx sm d0
      have e2 : At (Ty.ref [(Ty.int (xs.getD k 0))]) tx ax (.tmp 19) := d0 rfl
      exact run_plain rfl (y_load Try.underlying3 rfl e2 rfl)
    · intro ax tx hs okx sm
      exact run_plain rfl (y_move (kp (sm 1 rfl) hs q15))
    · intro ax tx hs okx sm
      exact run_plain rfl (y_move (kp (sm 5 rfl) hs q13))
    · intro ax tx hs okx sm d0 d1
      have e4 : At (Ty.lst Ty.int ys) tx ax (.tmp 21) := d0 rfl
      have e5 : At (Ty.nat k) tx ax (.tmp 22) := d1 rfl
      exact run_plain rfl (y_index1 Try.underlying22 Try.inf3 e4 e5 (by omega) (lst_get Ty.int ys 0 k (by omega)))
    · intro ax tx hs okx sm d0
      have e6 : At (Ty.ref [(Ty.int (ys.getD k 0))]) tx ax (.tmp 23) := d0 rfl
      exact run_plain rfl (y_load Try.underlying3 rfl e6 rfl)
    · intro ax tx hs okx sm d0 d1
      have e3 : At (Ty.int (xs.getD k 0)) tx ax (.tmp 20) := d0 rfl
      have e7 : At (Ty.int (ys.getD k 0)) tx ax (.tmp 24) := d1 rfl
      exact run_plain rfl (y_neq e3 e7)
    intro a8 s6 D6
    have ok7 := D6.ok
    have F7 := F6.step0 D6.stp
    have q17 : At (Ty.nat k) s6 a8 (.tmp 5) := D6.kt q13 rfl
    have q18 : At (Ty.lst Ty.int xs) s6 a8 (.tmp 0) := D6.kt q14 rfl
    have q19 : At (Ty.lst Ty.int ys) s6 a8 (.tmp 1) := D6.kt q15 rfl
    have q20 : At (Ty.bool (decide ((xs.getD k 0) ≠ (ys.getD k 0)))) s6 a8 (.tmp 25) := D6.done 8
    clear D6
    refine tn ?_
    refine cond_p (p := ((xs.getD k 0) ≠ (ys.getD k 0))) q20 (fun c3 => ?_) (fun c3 => ?_)
    ·
     refine wp_seq ?_
     refine reg (a := a8) (σ := s6) rfl (fun i_ => List.getD [(Ty.pr (Ty.bool false))] i_ Pr.any) ok7 rfl ⟨?_, trivial⟩ ?_
     · intro ax tx hs okx sm
       exact run_plain rfl (y_assign rfl)
     intro a9 s7 D7
     have ok8 := D7.ok
     have F8 := F7.step0 D7.stp
     have q21 : At (Ty.bool false) s7 a9 (.tmp 4) := D7.done 0
     clear D7
     refine tn ?_
     refine wp_ret ?_
     refine br ?_
     refine tr ?_
     refine tr ?_
     refine br ?_
     refine tr ?_
     exact ret1 rfl ok8 F8 (cvb (by (exact (decide_eq_false (fun e => by subst e; simp_all)).symm)) q21)
    ·
     refine wp_skip ?_
     refine bn ?_
     refine tn ?_
     refine reg (a := a8) (σ := s6) rfl (fun i_ => List.getD [(Ty.pr (Ty.nat k)), (Ty.pr (Ty.int (((k : Nat) : Int) + (1 : Int)))), (Ty.pr (Ty.int (((k : Nat) : Int) + (1 : Int))))] i_ Pr.any) ok7 rfl ⟨?_, ?_, ?_, trivial⟩ ?_
     · intro ax tx hs okx sm
       exact run_plain rfl (y_move (kp (sm 5 rfl) hs q17))
     · intro ax tx hs okx sm d0
       have e0 : At (Ty.nat k) tx ax (.tmp 15) := d0 rfl
       exact run_plain rfl (y_add e0 rfl (w64 (by omega) (by omega)))
     · intro ax tx hs okx sm d0 d1 d2
       have e1 : At (Ty.int (((k : Nat) : Int) + (1 : Int))) tx ax (.tmp 16) := d0 rfl
       have e0 : At (Ty.nat k) tx ax (.tmp 15) := d1 rfl
       exact run_plain rfl (y_assign e1)
     intro a10 s8 D8
     have ok9 := D8.ok
     have F9 := F7.step0 D8.stp
     have q22 : At (Ty.lst Ty.int xs) s8 a10 (.tmp 0) := D8.kt q18 rfl
     have q23 : At (Ty.lst Ty.int ys) s8 a10 (.tmp 1) := D8.kt q19 rfl
     have q24 : At (Ty.int (((k : Nat) : Int) + (1 : Int))) s8 a10 (.tmp 5) := D8.done 2
     clear D8
     exact tn ⟨xs.length - ((k+1)), by omega, s8, (k+1), rfl, F9, ok9, (cvi (by (first | rfl | omega | (simp_all; done) | (simp_all; omega))) q24), q22, q23, by omega, by omega, all_snoc heq (by assumption), rfl⟩
   ·
    refine wp_exit ?_
    refine tx ?_
    refine tx ?_
    refine bx ?_
    refine tn ?_
    refine wp_seq ?_
    refine reg (a := a7) (σ := s5) rfl (fun i_ => List.getD [(Ty.pr (Ty.bool true))] i_ Pr.any) ok6 rfl ⟨?_, trivial⟩ ?_
    · intro ax tx hs okx sm
      exact run_plain rfl (y_assign rfl)
    intro a11 s9 D9
    have ok10 := D9.ok
    have F10 := F6.step0 D9.stp
    have q25 : At (Ty.bool true) s9 a11 (.tmp 4) := D9.done 0
    clear D9
    refine tn ?_
    refine wp_ret ?_
    exact ret1 rfl ok10 F10 (cvb (by (exact (decide_eq_true (list_ext (by omega) (fun j hj => heq j (by omega)))).symm)) q25)


set_option maxRecDepth 100000 in
theorem rBy_fn (a : List Int) (b : List Int) (σ : GW) (v0 v1 : Value) (hv0 : Ty.has (Ty.lst Ty.int a) σ v0) (hv1 : Ty.has (Ty.lst Ty.int b) σ v1) (hbd : ∀ i, i < b.length → 0 ≤ b.getD i 0 ∧ b.getD i 0 < a.length) (hs : b.length ≤ 1000000) :
    FnC Try.prog 20 #[v0, v1] σ (Ty.lst Ty.int (byL a b)) := by
 refine fn_intro Try.func20 rfl Try.ntmps20 (Nat.le_of_ble_eq_true rfl) (fun s0 a0 hle F0 ok0 hargs => ?_)
 have p0 : At (Ty.lst Ty.int a) s0 a0 (.tmp 0) := by have e := hargs 0 _ rfl; show Ty.has _ _ _; rw [e]; exact Ty.up _ hle hv0
 have b1 := sl_le p0
 have p1 : At (Ty.lst Ty.int b) s0 a0 (.tmp 1) := by have e := hargs 1 _ rfl; show Ty.has _ _ _; rw [e]; exact Ty.up _ hle hv1
 have b2 := sl_le p1
 clear hargs
 refine wp_seq ?_
 refine reg (a := a0) (σ := s0) rfl (fun i_ => List.getD [(Ty.pr (Ty.val (Value.slice none 0 0)))] i_ Pr.any) ok0 rfl ⟨?_, trivial⟩ ?_
 · intro ax tx hs okx sm
   exact run_plain rfl (y_assign rfl)
 intro a1 s1 D1
 have ok1 := D1.ok
 have F1 := F0.step0 D1.stp
 have q1 : At (Ty.lst Ty.int a) s1 a1 (.tmp 0) := D1.kt p0 rfl
 have q2 : At (Ty.lst Ty.int b) s1 a1 (.tmp 1) := D1.kt p1 rfl
 clear D1
 refine tn ?_
 refine wp_seq ?_
 refine reg (a := a1) (σ := s1) rfl (fun i_ => List.getD [(Ty.pr (Ty.val (Value.slice none 0 0)))] i_ Pr.any) ok1 rfl ⟨?_, trivial⟩ ?_
 · intro ax tx hs okx sm
   exact run_plain rfl (y_assign rfl)
 intro a2 s2 D2
 have ok2 := D2.ok
 have F2 := F1.step0 D2.stp
 have q3 : At (Ty.lst Ty.int a) s2 a2 (.tmp 0) := D2.kt q1 rfl
 have q4 : At (Ty.lst Ty.int b) s2 a2 (.tmp 1) := D2.kt q2 rfl
 have q5 : At (Ty.val (Value.slice none 0 0)) s2 a2 (.tmp 5) := D2.done 0
 clear D2
 refine tn ?_
 refine wp_seq ?_
 refine wp_seq ?_
 refine reg (a := a2) (σ := s2) rfl (fun i_ => List.getD [(Ty.pr (Ty.int (0 : Int)))] i_ Pr.any) ok2 rfl ⟨?_, trivial⟩ ?_
 · intro ax tx hs okx sm
   exact run_plain rfl (y_assign rfl)
 intro a3 s3 D3
 have ok3 := D3.ok
 have F3 := F2.step0 D3.stp
 have q6 : At (Ty.lst Ty.int a) s3 a3 (.tmp 0) := D3.kt q3 rfl
 have q7 : At (Ty.lst Ty.int b) s3 a3 (.tmp 1) := D3.kt q4 rfl
 have q8 : At (Ty.val (Value.slice none 0 0)) s3 a3 (.tmp 5) := D3.kt q5 rfl
 have q9 : At (Ty.int (0 : Int)) s3 a3 (.tmp 6) := D3.done 0
 clear D3
 refine tn ?_
 refine wp_block ?_
 refine loop (fun n1 a4 w1 => ∃ (t1 : GW) (k : Nat), t1.w = w1 ∧ From s0 t1 ∧ Ok 24 a4 ∧ (Pr.own 2 3 1 (List.length (byL a (b.take k))) (List.map Ty.int (byL a (b.take k)))).has t1 (a4.eval (.tmp 5)) ∧ At (Ty.nat k) t1 a4 (.tmp 6) ∧ At (Ty.lst Ty.int a) t1 a4 (.tmp 0) ∧ At (Ty.lst Ty.int b) t1 a4 (.tmp 1) ∧ (k ≤ b.length) ∧ n1 = b.length - k) (b.length - (0)) ?_ ?_
 ·
  exact ⟨s3, 0, rfl, F3, ok3, (by have e : a3.eval (.tmp 5) = _ := q8; rw [e]; exact Own.nil _ _ _ _), (cvi (by (first | rfl | omega | (simp_all; done) | (simp_all; omega))) q9), q6, q7, by omega, rfl⟩
 ·
  rintro n2 a5 w2 ⟨t2, k, rfl, F4, ok4, q10, q11, q12, q13, hk, rfl⟩
  have hp := byL_take_len a b k
  refine wp_seq ?_
  refine wp_seq ?_
  refine reg (a := a5) (σ := t2) rfl (fun i_ => List.getD [(Ty.pr (Ty.nat k)), (Ty.pr (Ty.lst Ty.int b)), (Ty.pr (Ty.nat (List.length b))), (Ty.pr (Ty.bool (decide (((k : Nat) : Int) < (((List.length b) : Nat) : Int)))))] i_ Pr.any) ok4 rfl ⟨?_, ?_, ?_, ?_, trivial⟩ ?_
  · intro ax tx hs okx sm
    exact run_plain rfl (y_move (kp (sm 6 rfl) hs q11))
  · intro ax tx hs okx sm
    exact run_plain rfl (y_move (kp (sm 1 rfl) hs q13))
  · intro ax tx hs okx sm d0
    have e1 : At (Ty.lst Ty.int b) tx ax (.tmp 8) := d0 rfl
    exact run_plain rfl (y_len Try.underlying22 e1)
  · intro ax tx hs okx sm d0 d1
    have e0 : At (Ty.nat k) tx ax (.tmp 7) := d0 rfl
    have e2 : At (Ty.nat (List.length b)) tx ax (.tmp 9) := d1 rfl
    exact run_plain rfl (y_lss e0 e2)
  intro a6 s4 D4
  have ok5 := D4.ok
  have F5 := F4.step0 D4.stp
  have q14 : (Pr.own 2 3 1 (List.length (byL a (b.take k))) (List.map Ty.int (byL a (b.take k)))).has s4 (a6.eval (.tmp 5)) := D4.ko q10 rfl
  have q15 : At (Ty.nat k) s4 a6 (.tmp 6) := D4.kt q11 rfl
  have q16 : At (Ty.lst Ty.int a) s4 a6 (.tmp 0) := D4.kt q12 rfl
  have q17 : At (Ty.lst Ty.int b) s4 a6 (.tmp 1) := D4.kt q13 rfl
  have q18 : At (Ty.bool (decide (((k : Nat) : Int) < (((List.length b) : Nat) : Int)))) s4 a6 (.tmp 10) := D4.done 3
  clear D4
  refine tn ?_
  refine cond_p (p := (((k : Nat) : Int) < (((List.length b) : Nat) : Int))) q18 (fun c1 => ?_) (fun c1 => ?_)
  ·
   have hq := hbd k (by omega)
   refine wp_skip ?_
   refine tn ?_
   refine wp_seq ?_
   refine wp_block ?_
   refine reg2 (a := a6) (σ := s4) rfl 9 (fun i_ => List.getD [(Ty.pr (Ty.val (a6.eval (.tmp 5)))), (Ty.pr (Ty.lst Ty.int a)), (Ty.pr (Ty.lst Ty.int b)), (Ty.pr (Ty.nat k)), (Ty.pr (Ty.ref [(Ty.int (b.getD k 0))])), (Ty.pr (Ty.int (b.getD k 0))), (Ty.pr (Ty.ref [(Ty.int (a.getD ((b.getD k 0)).toNat 0))])), (Ty.pr (Ty.int (a.getD ((b.getD k 0)).toNat 0))), (Ty.pr (Ty.sl 1 1 [(Ty.int (a.getD ((b.getD k 0)).toNat 0))]))] i_ Pr.any) ok5 rfl (by decide) rfl ⟨?_, ?_, ?_, ?_, ?_, ?_, ?_, ?_, ?_, trivial⟩ ?_
   · intro ax tx hs okx sm
     exact run_plain rfl (y_move (sm 5 rfl))
   · intro ax tx hs okx sm
     exact run_plain rfl (y_move (kp (sm 0 rfl) hs q16))
   · intro ax tx hs okx sm
     exact run_plain rfl (y_move (kp (sm 1 rfl) hs q17))
   · intro ax tx hs okx sm
     exact run_plain rfl (y_move (kp (sm 6 rfl) hs q15))
   · intro ax tx hs okx sm d0 d1
     have e2 : At (Ty.lst Ty.int b) tx ax (.tmp 15) := d0 rfl
     have e3 : At (Ty.nat k) tx ax (.tmp 16) := d1 rfl
     exact run_plain rfl (y_index1 Try.underlying22 Try.inf3 e2 e3 (by omega) (lst_get Ty.int b 0 k (by omega)))
   · intro ax tx hs okx sm d0
     have e4 : At (Ty.ref [(Ty.int (b.getD k 0))]) tx ax (.tmp 17) := d0 rfl
     exact run_plain rfl (y_load Try.underlying3 rfl e4 rfl)
   · intro ax tx hs okx sm d0 d1
     have e1 : At (Ty.lst Ty.int a) tx ax (.tmp 14) := d0 rfl
     have e5 : At (Ty.int (b.getD k 0)) tx ax (.tmp 18) := d1 rfl
     exact run_plain rfl (y_index1 Try.underlying22 Try.inf3 e1 e5 (by omega) (lst_get Ty.int a 0 ((b.getD k 0)).toNat (by omega)))
   · intro ax tx hs okx sm d0
     have e6 : At (Ty.ref [(Ty.int (a.getD ((b.getD k 0)).toNat 0))]) tx ax (.tmp 19) := d0 rfl
     exact run_plain rfl (y_load Try.underlying3 rfl e6 rfl)
   · intro ax tx hs okx sm d0
     have e7 : At (Ty.int (a.getD ((b.getD k 0)).toNat 0)) tx ax (.tmp 20) := d0 rfl
     exact run_plain rfl (y_build1o Try.underlying22 Try.inf3 rfl (one_val rfl) e7)
   intro a7 s5 D5
   have ok6 := D5.ok
   have F6 := F5.step0 D5.stp
   have q19 := (Pr.own 2 3 1 (List.length (byL a (b.take k))) (List.map Ty.int (byL a (b.take k)))).up D5.stp q14
   have q20 : a7.eval (.tmp 5) = a6.eval (.tmp 5) := D5.same 5 rfl
   have q21 : At (Ty.nat k) s5 a7 (.tmp 6) := D5.kt q15 rfl
   have q22 : At (Ty.lst Ty.int a) s5 a7 (.tmp 0) := D5.kt q16 rfl
   have q23 : At (Ty.lst Ty.int b) s5 a7 (.tmp 1) := D5.kt q17 rfl
   have q24 : At (Ty.val (a6.eval (.tmp 5))) s5 a7 (.tmp 13) := D5.done 0 (by decide)
   have q25 : At (Ty.sl 1 1 [(Ty.int (a.getD ((b.getD k 0)).toNat 0))]) s5 a7 (.tmp 21) := D5.done 8 (by decide)
   clear D5
   refine tail_step (m := 2) (R := (fun v τ => Own τ 2 3 1 v ((List.length (byL a (b.take k))) + 1) ((List.map Ty.int (byL a (b.take k))) ++ [(Ty.int (a.getD ((b.getD k 0)).toNat 0))]))) rfl rfl (by decide) ok6 (m_append Try.underlying22 Try.inf3 (by decide) rfl (by decide) (al q24 q19) q25 (by intro U hU; simp at hU;  subst hU; exact one_val rfl) (by omega) (by omega)) (fun a8 s6 hs1 ok7 r1 sm1 => ?_)
   have F7 := F6.step hs1 (by decide)
   have q26 : At (Ty.nat k) s6 a8 (.tmp 6) := kpm hs1 (by decide) (sm1 6 (by decide)) q21
   have q27 : At (Ty.lst Ty.int a) s6 a8 (.tmp 0) := kpm hs1 (by decide) (sm1 0 (by decide)) q22
   have q28 : At (Ty.lst Ty.int b) s6 a8 (.tmp 1) := kpm hs1 (by decide) (sm1 1 (by decide)) q23
   have q29 : At (Ty.sl 1 1 [(Ty.int (a.getD ((b.getD k 0)).toNat 0))]) s6 a8 (.tmp 21) := kpm hs1 (by decide) (sm1 21 (by decide)) q25
   have q30 : (Pr.own 2 3 1 (List.length ((byL a (b.take k)) ++ [(a.getD ((b.getD k 0)).toNat 0)])) (List.map Ty.int ((byL a (b.take k)) ++ [(a.getD ((b.getD k 0)).toNat 0)]))).has s6 (a8.eval (.tmp 22)) := (cvo (by simp) (by simp) r1)
   refine tail_step (m := 0) (R := (fun v τ => Pr.has (Pr.own 2 3 1 (List.length ((byL a (b.take k)) ++ [(a.getD ((b.getD k 0)).toNat 0)])) (List.map Ty.int ((byL a (b.take k)) ++ [(a.getD ((b.getD k 0)).toNat 0)]))) τ v)) rfl rfl (by decide) ok7 (Yld.toM (y_assign q30)) (fun a9 s7 hs2 ok8 r2 sm2 => ?_)
   have F8 := F7.step hs2 (by decide)
   have q31 : At (Ty.nat k) s7 a9 (.tmp 6) := kpm hs2 (by decide) (sm2 6 (by decide)) q26
   have q32 : At (Ty.lst Ty.int a) s7 a9 (.tmp 0) := kpm hs2 (by decide) (sm2 0 (by decide)) q27
   have q33 : At (Ty.lst Ty.int b) s7 a9 (.tmp 1) := kpm hs2 (by decide) (sm2 1 (by decide)) q28
   have q34 : At (Ty.sl 1 1 [(Ty.int (a.getD ((b.getD k 0)).toNat 0))]) s7 a9 (.tmp 21) := kpm hs2 (by decide) (sm2 21 (by decide)) q29
   have q35 : (Pr.own 2 3 1 (List.length ((byL a (b.take k)) ++ [(a.getD ((b.getD k 0)).toNat 0)])) (List.map Ty.int ((byL a (b.take k)) ++ [(a.getD ((b.getD k 0)).toNat 0)]))).has s7 (a9.eval (.tmp 22)) := kpmo hs2 (by decide) (.inl rfl) (sm2 22 (by decide)) q30
   have q36 : (Pr.own 2 3 1 (List.length ((byL a (b.take k)) ++ [(a.getD ((b.getD k 0)).toNat 0)])) (List.map Ty.int ((byL a (b.take k)) ++ [(a.getD ((b.getD k 0)).toNat 0)]))).has s7 (a9.eval (.tmp 5)) := r2
   refine wpList_nil ?_
   refine bn ?_
   refine tn ?_
   refine reg (a := a9) (σ := s7) rfl (fun i_ => List.getD [(Ty.pr (Ty.nat k)), (Ty.pr (Ty.int (((k : Nat) : Int) + (1 : Int)))), (Ty.pr (Ty.int (((k : Nat) : Int) + (1 : Int))))] i_ Pr.any) ok8 rfl ⟨?_, ?_, ?_, trivial⟩ ?_
   · intro ax tx hs okx sm
     exact run_plain rfl (y_move (kp (sm 6 rfl) hs q31))
   · intro ax tx hs okx sm d0
     have e0 : At (Ty.nat k) tx ax (.tmp 11) := d0 rfl
     exact run_plain rfl (y_add e0 rfl (w64 (by omega) (by omega)))
   · intro ax tx hs okx sm d0 d1 d2
     have e1 : At (Ty.int (((k : Nat) : Int) + (1 : Int))) tx ax (.tmp 12) := d0 rfl
     have e0 : At (Ty.nat k) tx ax (.tmp 11) := d1 rfl
     exact run_plain rfl (y_assign e1)
   intro a10 s8 D6
   have ok9 := D6.ok
   have F9 := F8.step0 D6.stp
   have q37 : At (Ty.lst Ty.int a) s8 a10 (.tmp 0) := D6.kt q32 rfl
   have q38 : At (Ty.lst Ty.int b) s8 a10 (.tmp 1) := D6.kt q33 rfl
   have q39 : (Pr.own 2 3 1 (List.length ((byL a (b.take k)) ++ [(a.getD ((b.getD k 0)).toNat 0)])) (List.map Ty.int ((byL a (b.take k)) ++ [(a.getD ((b.getD k 0)).toNat 0)]))).has s8 (a10.eval (.tmp 5)) := D6.ko q36 rfl
   have q40 : At (Ty.int (((k : Nat) : Int) + (1 : Int))) s8 a10 (.tmp 6) := D6.done 2
   clear D6
   exact tn ⟨b.length - ((k+1)), by omega, s8, (k+1), rfl, F9, ok9, (cvo (by (rw [byL_snoc a b k (by omega)])) (by (rw [byL_snoc a b k (by omega)])) q39), (cvi (by (first | rfl | omega | (simp_all; done) | (simp_all; omega))) q40), q37, q38, by omega, rfl⟩
  ·
   refine wp_exit ?_
   refine tx ?_
   refine tx ?_
   refine bx ?_
   refine tn ?_
   refine wp_seq ?_
   refine reg (a := a6) (σ := s4) rfl (fun i_ => List.getD [(Ty.pr (Ty.val (a6.eval (.tmp 5)))), (Ty.pr (Ty.val (a6.eval (.tmp 5))))] i_ Pr.any) ok5 rfl ⟨?_, ?_, trivial⟩ ?_
   · intro ax tx hs okx sm
     exact run_plain rfl (y_move (sm 5 rfl))
   · intro ax tx hs okx sm d0 d1
     have e0 : At (Ty.val (a6.eval (.tmp 5))) tx ax (.tmp 23) := d0 rfl
     exact run_plain rfl (y_assign e0)
   intro a11 s9 D7
   have ok10 := D7.ok
   have F10 := F5.step0 D7.stp
   have q41 : (Pr.own 2 3 1 (List.length (byL a (b.take k))) (List.map Ty.int (byL a (b.take k)))).has s9 (a11.eval (.tmp 4)) := al (show _ = _ from D7.done 1) ((Pr.own 2 3 1 (List.length (byL a (b.take k))) (List.map Ty.int (byL a (b.take k)))).up D7.stp q14)
   clear D7
   refine tn ?_
   refine wp_ret ?_
   obtain ⟨t3, e1, h1, q42⟩ := Own.seal q41 (by decide)
   rw [← e1]
   have F11 := F10.step h1 (by decide)
   exact ret1 rfl ok10 F11 (cvt (by (obtain rfl : k = b.length := (by omega); rw [List.take_length])) q42)


set_option maxRecDepth 100000 in
theorem topCourse_fn (raw : List Int) (n : Int) (changes : Int) (at_ : Int) (σ : GW) (v0 v1 v2 v3 : Value) (hv0 : Ty.has (Ty.lst Ty.int raw) σ v0) (hv1 : Ty.has (Ty.int n) σ v1) (hv2 : Ty.has (Ty.int changes) σ v2) (hv3 : Ty.has (Ty.int at_) σ v3) (hraw : ∀ x ∈ raw, -9223372036854775808 ≤ x ∧ x ≤ 9223372036854775807) (hn : -9223372036854775808 ≤ n ∧ n ≤ 9223372036854775807) (hchanges : -9223372036854775808 ≤ changes ∧ changes ≤ 9223372036854775807) (hat : -9223372036854775808 ≤ at_ ∧ at_ ≤ 9223372036854775807) :
    FnC Try.prog 5 #[v0, v1, v2, v3] σ (Ty.bool true) := by
 have hr : ∀ k, -9223372036854775808 ≤ rawAt raw k ∧ rawAt raw k ≤ 9223372036854775807 := fun k => rawAt_bd hraw k
 have hpl := pick_lt n (n := 7) (by omega)
 have hpk := pick_lt changes (n := 20) (by omega)
 obtain ⟨M, hM⟩ : ∃ M, M = 2 + pick n 7 := ⟨_, rfl⟩
 obtain ⟨K, hK⟩ : ∃ K, K = 1 + pick changes 20 := ⟨_, rfl⟩
 obtain ⟨L, hL⟩ : ∃ L, L = changesOf raw 3 M K := ⟨_, rfl⟩
 have hmo : MethOk (ByteArray.mk #[84, 114, 105, 101, 100]) M L := by (rw [hL]; exact methOk_of (by decide +kernel) (by omega) (by omega) (by omega) (by omega))
 have hbs : (ByteArray.mk #[84, 114, 105, 101, 100]).size ≤ 1099511627776 := by (show 5 ≤ 1099511627776; omega)
 have hmay := hmo.may
 obtain ⟨hhr, hhl⟩ := hmo.head
 have htn : (((M : Nat) : Int)).toNat = M := Int.toNat_natCast _
 have h840 := ordL_840 hhr (by omega)
 have hop := ordL_pos hhr
 have hclen : L.length = K := by (rw [hL, changesOf_len])
 have hmul : ordL (headL M L) * L.length ≤ 840 * 20 := Nat.mul_le_mul h840 (by omega)
 have hmul1 : 1 * 1 ≤ ordL (headL M L) * L.length := Nat.mul_le_mul hop (by omega)
 have hcm : courseMay (ByteArray.mk #[84, 114, 105, 101, 100]) ((M : Nat) : Int) L = 0 := by (unfold courseMay; rw [if_neg (by omega), htn, if_neg (by omega)])
 have hz := crs_zero hmo (m := ordL (headL M L) * L.length) (by omega)
 have hnx := fun i => crs_next hmo (i := i)
 have hrow := fun i => crs_row hmo (m := ordL (headL M L) * L.length) (i := i)
 have hcl := crs_len M L (ordL (headL M L) * L.length)
 have hcast : (((ordL (headL M L) : Nat) : Int)) * ((L.length : Nat) : Int) = ((ordL (headL M L) * L.length : Nat) : Int) := (Int.natCast_mul _ _).symm
 obtain ⟨C, hC⟩ : ∃ C, C = crs M L (ordL (headL M L) * L.length) := ⟨_, rfl⟩
 obtain ⟨H, hH⟩ : ∃ H, H = headL M L := ⟨_, rfl⟩
 rw [← hC] at hz hcl hrow hnx
 rw [← hH] at hhr hhl h840 hop hmul hmul1 hnx hcl hrow hcast
 have hi := pick_lt at_ (n := C.length) (by omega)
 obtain ⟨i, hii⟩ : ∃ i, i = pick at_ C.length := ⟨_, rfl⟩
 rw [← hii] at hi
 refine fn_intro Try.func5 rfl Try.ntmps5 (Nat.le_of_ble_eq_true rfl) (fun s0 a0 hle F0 ok0 hargs => ?_)
 have p0 : At (Ty.lst Ty.int raw) s0 a0 (.tmp 0) := by have e := hargs 0 _ rfl; show Ty.has _ _ _; rw [e]; exact Ty.up _ hle hv0
 have b1 := sl_le p0
 have p1 : At (Ty.int n) s0 a0 (.tmp 1) := by have e := hargs 1 _ rfl; show Ty.has _ _ _; rw [e]; exact Ty.up _ hle hv1
 have p2 : At (Ty.int changes) s0 a0 (.tmp 2) := by have e := hargs 2 _ rfl; show Ty.has _ _ _; rw [e]; exact Ty.up _ hle hv2
 have p3 : At (Ty.int at_) s0 a0 (.tmp 3) := by have e := hargs 3 _ rfl; show Ty.has _ _ _; rw [e]; exact Ty.up _ hle hv3
 clear hargs
 refine wp_seq ?_
 refine reg (a := a0) (σ := s0) rfl (fun i_ => List.getD [(Ty.pr (Ty.bool false))] i_ Pr.any) ok0 rfl ⟨?_, trivial⟩ ?_
 · intro ax tx hs okx sm
   exact run_plain rfl (y_assign rfl)
 intro a1 s1 D1
 have ok1 := D1.ok
 have F1 := F0.step0 D1.stp
 have q1 : At (Ty.lst Ty.int raw) s1 a1 (.tmp 0) := D1.kt p0 rfl
 have q2 : At (Ty.int n) s1 a1 (.tmp 1) := D1.kt p1 rfl
 have q3 : At (Ty.int changes) s1 a1 (.tmp 2) := D1.kt p2 rfl
 have q4 : At (Ty.int at_) s1 a1 (.tmp 3) := D1.kt p3 rfl
 clear D1
 refine tn ?_
 refine wp_seq ?_
 refine wp_seq ?_
 refine reg (a := a1) (σ := s1) rfl (fun i_ => List.getD [(Ty.pr (Ty.lst Ty.int raw)), (Ty.pr (Ty.nat (List.length raw))), (Ty.pr (Ty.bool (decide ((256 : Int) < (((List.length raw) : Nat) : Int)))))] i_ Pr.any) ok1 rfl ⟨?_, ?_, ?_, trivial⟩ ?_
 · intro ax tx hs okx sm
   exact run_plain rfl (y_move (kp (sm 0 rfl) hs q1))
 · intro ax tx hs okx sm d0
   have e0 : At (Ty.lst Ty.int raw) tx ax (.tmp 17) := d0 rfl
   exact run_plain rfl (y_len Try.underlying22 e0)
 · intro ax tx hs okx sm d0
   have e1 : At (Ty.nat (List.length raw)) tx ax (.tmp 18) := d0 rfl
   exact run_plain rfl (y_gtr e1 rfl)
 intro a2 s2 D2
 have ok2 := D2.ok
 have F2 := F1.step0 D2.stp
 have q5 : At (Ty.lst Ty.int raw) s2 a2 (.tmp 0) := D2.kt q1 rfl
 have q6 : At (Ty.int n) s2 a2 (.tmp 1) := D2.kt q2 rfl
 have q7 : At (Ty.int changes) s2 a2 (.tmp 2) := D2.kt q3 rfl
 have q8 : At (Ty.int at_) s2 a2 (.tmp 3) := D2.kt q4 rfl
 have q9 : At (Ty.bool (decide ((256 : Int) < (((List.length raw) : Nat) : Int)))) s2 a2 (.tmp 19) := D2.done 2
 clear D2
 refine tn ?_
 refine cond_p (p := ((256 : Int) < (((List.length raw) : Nat) : Int))) q9 (fun c1 => ?_) (fun c1 => ?_)
 ·
  refine wp_seq ?_
  refine reg (a := a2) (σ := s2) rfl (fun i_ => List.getD [(Ty.pr (Ty.bool true))] i_ Pr.any) ok2 rfl ⟨?_, trivial⟩ ?_
  · intro ax tx hs okx sm
    exact run_plain rfl (y_assign rfl)
  intro a3 s3 D3
  have ok3 := D3.ok
  have F3 := F2.step0 D3.stp
  have q10 : At (Ty.bool true) s3 a3 (.tmp 8) := D3.done 0
  clear D3
  refine tn ?_
  refine wp_ret ?_
  refine tr ?_
  exact ret1 rfl ok3 F3 q10
 ·
  refine wp_skip ?_
  refine tn ?_
  refine wp_seq ?_
  refine reg2 (a := a2) (σ := s2) rfl 9 (fun i_ => List.getD [(Ty.pr (Ty.lst Ty.int raw)), (Ty.pr (Ty.int n)), (Ty.pr (Ty.nat (pick (n) (7)))), (Ty.pr (Ty.nat (2 + (pick (n) (7))))), (Ty.pr (Ty.int changes)), (Ty.pr (Ty.nat (pick (changes) (20)))), (Ty.pr (Ty.nat (1 + (pick (changes) (20))))), (Ty.pr (Ty.agg [(Ty.val (Value.string (ByteArray.mk #[84, 114, 105, 101, 100]))), (Ty.nat M), (Ty.lst Ty.ints L)])), (Pr.ownp 12 [(Ty.val (.string ByteArray.empty)), (Ty.val (.int .i64 0)), (Ty.val (.slice none 0 0))])] i_ Pr.any) ok2 rfl (by decide) rfl ⟨?_, ?_, ?_, ?_, ?_, ?_, ?_, ?_, ?_, trivial⟩ ?_
  · intro ax tx hs okx sm
    exact run_plain rfl (y_move (kp (sm 0 rfl) hs q5))
  · intro ax tx hs okx sm
    exact run_plain rfl (y_move (kp (sm 1 rfl) hs q6))
  · intro ax tx hs okx sm d0
    have e1 : At (Ty.int n) tx ax (.tmp 21) := d0 rfl
    exact run_plain rfl (y_call #[ax.eval (.tmp 21), ax.eval ((Operand.const (Value.int IntKind.i64 7)))] Try.func8 rfl rfl (by simp only [List.map_toArray, List.map_cons, List.map_nil]) (pick_fn (n) (7) _ _ _ e1 rfl (by omega) (by omega)))
  · intro ax tx hs okx sm d0
    have e2 : At (Ty.nat (pick (n) (7))) tx ax (.tmp 22) := d0 rfl
    exact run_plain rfl ((y_add rfl e2 (w64 (by omega) (by omega))).mono (fun τ _ h => cvi (σ := τ) (by first | omega | exact (Int.natCast_mul _ _).symm) h))
  · intro ax tx hs okx sm
    exact run_plain rfl (y_move (kp (sm 2 rfl) hs q7))
  · intro ax tx hs okx sm d0 d1
    have e4 : At (Ty.int changes) tx ax (.tmp 24) := d0 rfl
    have e2 : At (Ty.nat (pick (n) (7))) tx ax (.tmp 22) := d1 rfl
    exact run_plain rfl (y_call #[ax.eval (.tmp 24), ax.eval ((Operand.const (Value.int IntKind.i64 20)))] Try.func8 rfl rfl (by simp only [List.map_toArray, List.map_cons, List.map_nil]) (pick_fn (changes) (20) _ _ _ e4 rfl (by omega) (by omega)))
  · intro ax tx hs okx sm d0
    have e5 : At (Ty.nat (pick (changes) (20))) tx ax (.tmp 25) := d0 rfl
    exact run_plain rfl ((y_add rfl e5 (w64 (by omega) (by omega))).mono (fun τ _ h => cvi (σ := τ) (by first | omega | exact (Int.natCast_mul _ _).symm) h))
  · intro ax tx hs okx sm d0 d1 d2 d3
    have e0 : At (Ty.lst Ty.int raw) tx ax (.tmp 20) := d0 rfl
    have e3 : At (Ty.nat (2 + (pick (n) (7)))) tx ax (.tmp 23) := d1 rfl
    have e6 : At (Ty.nat (1 + (pick (changes) (20)))) tx ax (.tmp 26) := d2 rfl
    have e5 : At (Ty.nat (pick (changes) (20))) tx ax (.tmp 25) := d3 rfl
    exact run_plain rfl ((y_call #[ax.eval (.tmp 20), ax.eval (.tmp 23), ax.eval (.tmp 26)] Try.func15 rfl rfl (by simp only [List.map_toArray, List.map_cons, List.map_nil]) (methodOf_fn (raw) ((2 + (pick (n) (7)))) ((1 + (pick (changes) (20)))) _ _ _ _ e0 e3 e6 (by first | omega | exact hr | assumption) (by first | omega | exact hr | assumption) (by first | omega | exact hr | assumption))).mono (fun τ _ h => cvt (σ := τ) (T := (Ty.agg [(Ty.val (Value.string (ByteArray.mk #[84, 114, 105, 101, 100]))), (Ty.nat ((2 + (pick (n) (7))))), (Ty.lst Ty.ints (changesOf raw 3 ((2 + (pick (n) (7)))) ((1 + (pick (changes) (20))))))])) (U := (Ty.agg [(Ty.val (Value.string (ByteArray.mk #[84, 114, 105, 101, 100]))), (Ty.nat M), (Ty.lst Ty.ints L)])) (by rw [hL, hM, hK]) h))
  · intro ax tx hs okx sm
    exact run_plain rfl (y_alloc Try.inf31 rfl (alloc_vals (vs := [.string ByteArray.empty, .int .i64 0, .slice none 0 0]) rfl))
  intro a4 s4 D4
  have ok4 := D4.ok
  have F4 := F2.step0 D4.stp
  have q11 : At (Ty.int at_) s4 a4 (.tmp 3) := D4.kt q8 rfl
  have q12 : At (Ty.agg [(Ty.val (Value.string (ByteArray.mk #[84, 114, 105, 101, 100]))), (Ty.nat M), (Ty.lst Ty.ints L)]) s4 a4 (.tmp 27) := D4.done 7 (by decide)
  have q13 : (Pr.ownp 12 [(Ty.val (.string ByteArray.empty)), (Ty.val (.int .i64 0)), (Ty.val (.slice none 0 0))]).has s4 (a4.eval (.tmp 9)) := D4.done 8 (by decide)
  have q14 : a4.eval (.tmp 9) = a4.eval (.tmp 9) := rfl
  clear D4
  refine tail_step0 (m := 12) (R := (fun _ τ => OwnP τ 12 (a4.eval (.tmp 9)) [(Ty.val (Value.string (ByteArray.mk #[84, 114, 105, 101, 100]))), (Ty.nat M), (Ty.lst Ty.ints L)])) rfl rfl (m_storeagg Try.inf31 (by decide) q13 q14 rfl q12 (by intro U hU; simp only [List.mem_cons, List.not_mem_nil, or_false] at hU; rcases hU with rfl | rfl | rfl <;> first | exact one_val rfl | exact one_sl | exact one_ref)) (fun v1 s5 hs1 r1 => ?_)
  have F5 := F4.step hs1 (by decide)
  have q15 : At (Ty.int at_) s5 a4 (.tmp 3) := kpm hs1 (by decide) rfl q11
  have q16 : At (Ty.agg [(Ty.val (Value.string (ByteArray.mk #[84, 114, 105, 101, 100]))), (Ty.nat M), (Ty.lst Ty.ints L)]) s5 a4 (.tmp 27) := kpm hs1 (by decide) rfl q12
  have q17 : (Pr.ownp 12 [(Ty.val (Value.string (ByteArray.mk #[84, 114, 105, 101, 100]))), (Ty.nat M), (Ty.lst Ty.ints L)]).has s5 (a4.eval (.tmp 9)) := r1
  refine wpList_nil ?_
  have q18 : (Pr.ownp 12 [(Ty.val (Value.string (ByteArray.mk #[84, 114, 105, 101, 100]))), (Ty.nat M), (Ty.lst Ty.ints L)]).has s5 (a4.eval (.tmp 9)) := al q14 q17
  refine tn ?_
  refine wp_seq ?_
  obtain ⟨t1, e1, h1, q19⟩ := OwnP.seal q18 (by decide)
  rw [← e1]
  have F6 := F5.step h1 (by decide)
  have q20 := Ty.up (Ty.int at_) (h1.le (by decide)) q15
  refine reg (a := a4) (σ := t1) rfl (fun i_ => List.getD [(Ty.pr (Ty.agg [(Ty.val (Value.string (ByteArray.mk #[84, 114, 105, 101, 100]))), (Ty.nat M), (Ty.lst Ty.ints L)])), (Ty.pr (Ty.tup2 (Ty.lst Ty.ints C) (Ty.int (0 : Int)))), (Ty.pr (Ty.tup2 (Ty.lst Ty.ints C) (Ty.int (0 : Int)))), (Ty.pr (Ty.lst Ty.ints C)), (Ty.pr (Ty.int (0 : Int))), (Ty.pr (Ty.lst Ty.ints C)), (Ty.pr (Ty.int (0 : Int)))] i_ Pr.any) ok4 rfl ⟨?_, ?_, ?_, ?_, ?_, ?_, ?_, trivial⟩ ?_
  · intro ax tx hs okx sm
    exact run_plain rfl (y_loadagg Try.underlying31 Try.inf31 (kp (sm 9 rfl) hs q19))
  · intro ax tx hs okx sm d0
    have e0 : At (Ty.agg [(Ty.val (Value.string (ByteArray.mk #[84, 114, 105, 101, 100]))), (Ty.nat M), (Ty.lst Ty.ints L)]) tx ax (.tmp 29) := d0 rfl
    exact run_plain rfl ((y_call #[ax.eval (.tmp 29)] Try.func16 rfl rfl (by simp only [List.map_toArray, List.map_cons, List.map_nil]) (course_fn ((ByteArray.mk #[84, 114, 105, 101, 100])) (((M : Nat) : Int)) (L) _ _ e0 (by first | omega | assumption) (by first | omega | assumption))).mono (fun τ _ h => cvt (σ := τ) (T := (Ty.tup2 (Ty.lst Ty.ints (if courseMay ((ByteArray.mk #[84, 114, 105, 101, 100])) (((M : Nat) : Int)) (L) = 0 then crs (((M : Nat) : Int)).toNat (L) (ordL (headL (((M : Nat) : Int)).toNat (L)) * (L).length) else [])) (Ty.int (courseMay ((ByteArray.mk #[84, 114, 105, 101, 100])) (((M : Nat) : Int)) (L))))) (U := (Ty.tup2 (Ty.lst Ty.ints C) (Ty.int (0 : Int)))) (by rw [htn, if_pos hcm, hcm, ← hC]) h))
  · intro ax tx hs okx sm d0
    have e1 : At (Ty.tup2 (Ty.lst Ty.ints C) (Ty.int (0 : Int))) tx ax (.tmp 30) := d0 rfl
    exact run_plain rfl (y_move e1)
  · intro ax tx hs okx sm d0
    have e2 : At (Ty.tup2 (Ty.lst Ty.ints C) (Ty.int (0 : Int))) tx ax (.tmp 28) := d0 rfl
    exact run_plain rfl (y_ext2_0 e2)
  · intro ax tx hs okx sm d0 d1
    have e2 : At (Ty.tup2 (Ty.lst Ty.ints C) (Ty.int (0 : Int))) tx ax (.tmp 28) := d0 rfl
    exact run_plain rfl (y_ext2_1 e2)
  · intro ax tx hs okx sm d0 d1 d2 d3 d4 d5 d6
    have e3 : At (Ty.lst Ty.ints C) tx ax (.tmp 31) := d0 rfl
    have e1 : At (Ty.tup2 (Ty.lst Ty.ints C) (Ty.int (0 : Int))) tx ax (.tmp 30) := d1 rfl
    have e0 : At (Ty.agg [(Ty.val (Value.string (ByteArray.mk #[84, 114, 105, 101, 100]))), (Ty.nat M), (Ty.lst Ty.ints L)]) tx ax (.tmp 29) := d2 rfl
    have e2 : At (Ty.tup2 (Ty.lst Ty.ints C) (Ty.int (0 : Int))) tx ax (.tmp 28) := d4 rfl
    exact run_plain rfl (y_assign e3)
  · intro ax tx hs okx sm d0 d1 d2 d3 d4 d5 d6 d7
    have e4 : At (Ty.int (0 : Int)) tx ax (.tmp 32) := d0 rfl
    have e5 : At (Ty.lst Ty.ints C) tx ax (.tmp 10) := d1 rfl
    have e0 : At (Ty.agg [(Ty.val (Value.string (ByteArray.mk #[84, 114, 105, 101, 100]))), (Ty.nat M), (Ty.lst Ty.ints L)]) tx ax (.tmp 29) := d2 rfl
    have e1 : At (Ty.tup2 (Ty.lst Ty.ints C) (Ty.int (0 : Int))) tx ax (.tmp 30) := d3 rfl
    have e2 : At (Ty.tup2 (Ty.lst Ty.ints C) (Ty.int (0 : Int))) tx ax (.tmp 28) := d4 rfl
    have e3 : At (Ty.lst Ty.ints C) tx ax (.tmp 31) := d5 rfl
    exact run_plain rfl (y_assign e4)
  intro a6 s6 D5
  have ok6 := D5.ok
  have F7 := F6.step0 D5.stp
  have q21 : At (Ty.int at_) s6 a6 (.tmp 3) := D5.kt q20 rfl
  have q22 : At (Ty.ref [(Ty.val (Value.string (ByteArray.mk #[84, 114, 105, 101, 100]))), (Ty.nat M), (Ty.lst Ty.ints L)]) s6 a6 (.tmp 9) := D5.kt q19 rfl
  have q23 : At (Ty.lst Ty.ints C) s6 a6 (.tmp 10) := D5.done 5
  have q24 : At (Ty.int (0 : Int)) s6 a6 (.tmp 11) := D5.done 6
  clear D5
  refine tn ?_
  refine wp_seq ?_
  refine reg (a := a6) (σ := s6) rfl (fun i_ => List.getD [(Ty.pr (Ty.agg [(Ty.val (Value.string (ByteArray.mk #[84, 114, 105, 101, 100]))), (Ty.nat M), (Ty.lst Ty.ints L)])), (Ty.pr (Ty.tup3 (Ty.lst Ty.int H) (Ty.nat (ordL H)) (Ty.int (0 : Int)))), (Ty.pr (Ty.tup3 (Ty.lst Ty.int H) (Ty.nat (ordL H)) (Ty.int (0 : Int)))), (Ty.pr (Ty.lst Ty.int H)), (Ty.pr (Ty.nat (ordL H))), (Ty.pr (Ty.int (0 : Int))), (Ty.pr (Ty.lst Ty.int H)), (Ty.pr (Ty.nat (ordL H))), (Ty.pr (Ty.int (0 : Int)))] i_ Pr.any) ok6 rfl ⟨?_, ?_, ?_, ?_, ?_, ?_, ?_, ?_, ?_, trivial⟩ ?_
  · intro ax tx hs okx sm
    exact run_plain rfl (y_loadagg Try.underlying31 Try.inf31 (kp (sm 9 rfl) hs q22))
  · intro ax tx hs okx sm d0
    have e0 : At (Ty.agg [(Ty.val (Value.string (ByteArray.mk #[84, 114, 105, 101, 100]))), (Ty.nat M), (Ty.lst Ty.ints L)]) tx ax (.tmp 34) := d0 rfl
    exact run_plain rfl ((y_call #[ax.eval (.tmp 34)] Try.func17 rfl rfl (by simp only [List.map_toArray, List.map_cons, List.map_nil]) (head_fn ((ByteArray.mk #[84, 114, 105, 101, 100])) (((M : Nat) : Int)) (L) _ _ e0 (by first | omega | assumption) (by first | omega | assumption))).mono (fun τ _ h => cvt (σ := τ) (T := (Ty.tup3 (Ty.lst Ty.int (if methMay ((ByteArray.mk #[84, 114, 105, 101, 100])) (((M : Nat) : Int)) (L) = 0 then headL (((M : Nat) : Int)).toNat (L) else [])) (Ty.nat (if methMay ((ByteArray.mk #[84, 114, 105, 101, 100])) (((M : Nat) : Int)) (L) = 0 then ordL (headL (((M : Nat) : Int)).toNat (L)) else 0)) (Ty.int (methMay ((ByteArray.mk #[84, 114, 105, 101, 100])) (((M : Nat) : Int)) (L))))) (U := (Ty.tup3 (Ty.lst Ty.int H) (Ty.nat (ordL H)) (Ty.int (0 : Int)))) (by rw [htn, if_pos hmay, if_pos hmay, hmay, ← hH]) h))
  · intro ax tx hs okx sm d0
    have e1 : At (Ty.tup3 (Ty.lst Ty.int H) (Ty.nat (ordL H)) (Ty.int (0 : Int))) tx ax (.tmp 35) := d0 rfl
    exact run_plain rfl (y_move e1)
  · intro ax tx hs okx sm d0
    have e2 : At (Ty.tup3 (Ty.lst Ty.int H) (Ty.nat (ordL H)) (Ty.int (0 : Int))) tx ax (.tmp 33) := d0 rfl
    exact run_plain rfl (y_ext3_0 e2)
  · intro ax tx hs okx sm d0 d1
    have e2 : At (Ty.tup3 (Ty.lst Ty.int H) (Ty.nat (ordL H)) (Ty.int (0 : Int))) tx ax (.tmp 33) := d0 rfl
    exact run_plain rfl (y_ext3_1 e2)
  · intro ax tx hs okx sm d0 d1
    have e2 : At (Ty.tup3 (Ty.lst Ty.int H) (Ty.nat (ordL H)) (Ty.int (0 : Int))) tx ax (.tmp 33) := d0 rfl
    exact run_plain rfl (y_ext3_2 e2)
  · intro ax tx hs okx sm d0 d1 d2 d3 d4 d5 d6 d7
    have e3 : At (Ty.lst Ty.int H) tx ax (.tmp 36) := d0 rfl
    have e1 : At (Ty.tup3 (Ty.lst Ty.int H) (Ty.nat (ordL H)) (Ty.int (0 : Int))) tx ax (.tmp 35) := d1 rfl
    have e0 : At (Ty.agg [(Ty.val (Value.string (ByteArray.mk #[84, 114, 105, 101, 100]))), (Ty.nat M), (Ty.lst Ty.ints L)]) tx ax (.tmp 34) := d2 rfl
    have e2 : At (Ty.tup3 (Ty.lst Ty.int H) (Ty.nat (ordL H)) (Ty.int (0 : Int))) tx ax (.tmp 33) := d4 rfl
    exact run_plain rfl (y_assign e3)
  · intro ax tx hs okx sm d0 d1 d2 d3 d4 d5 d6 d7 d8
    have e4 : At (Ty.nat (ordL H)) tx ax (.tmp 37) := d0 rfl
    have e6 : At (Ty.lst Ty.int H) tx ax (.tmp 12) := d1 rfl
    have e0 : At (Ty.agg [(Ty.val (Value.string (ByteArray.mk #[84, 114, 105, 101, 100]))), (Ty.nat M), (Ty.lst Ty.ints L)]) tx ax (.tmp 34) := d2 rfl
    have e1 : At (Ty.tup3 (Ty.lst Ty.int H) (Ty.nat (ordL H)) (Ty.int (0 : Int))) tx ax (.tmp 35) := d3 rfl
    have e2 : At (Ty.tup3 (Ty.lst Ty.int H) (Ty.nat (ordL H)) (Ty.int (0 : Int))) tx ax (.tmp 33) := d4 rfl
    have e3 : At (Ty.lst Ty.int H) tx ax (.tmp 36) := d5 rfl
    exact run_plain rfl (y_assign e4)
  · intro ax tx hs okx sm d0 d1 d2 d3 d4 d5 d6 d7 d8 d9
    have e5 : At (Ty.int (0 : Int)) tx ax (.tmp 38) := d0 rfl
    have e7 : At (Ty.nat (ordL H)) tx ax (.tmp 13) := d1 rfl
    have e0 : At (Ty.agg [(Ty.val (Value.string (ByteArray.mk #[84, 114, 105, 101, 100]))), (Ty.nat M), (Ty.lst Ty.ints L)]) tx ax (.tmp 34) := d2 rfl
    have e1 : At (Ty.tup3 (Ty.lst Ty.int H) (Ty.nat (ordL H)) (Ty.int (0 : Int))) tx ax (.tmp 35) := d3 rfl
    have e2 : At (Ty.tup3 (Ty.lst Ty.int H) (Ty.nat (ordL H)) (Ty.int (0 : Int))) tx ax (.tmp 33) := d4 rfl
    have e3 : At (Ty.lst Ty.int H) tx ax (.tmp 36) := d5 rfl
    have e4 : At (Ty.nat (ordL H)) tx ax (.tmp 37) := d6 rfl
    have e6 : At (Ty.lst Ty.int H) tx ax (.tmp 12) := d8 rfl
    exact run_plain rfl (y_assign e5)
  intro a7 s7 D6
  have ok7 := D6.ok
  have F8 := F7.step0 D6.stp
  have q25 : At (Ty.int at_) s7 a7 (.tmp 3) := D6.kt q21 rfl
  have q26 : At (Ty.ref [(Ty.val (Value.string (ByteArray.mk #[84, 114, 105, 101, 100]))), (Ty.nat M), (Ty.lst Ty.ints L)]) s7 a7 (.tmp 9) := D6.kt q22 rfl
  have q27 : At (Ty.lst Ty.ints C) s7 a7 (.tmp 10) := D6.kt q23 rfl
  have q28 : At (Ty.int (0 : Int)) s7 a7 (.tmp 11) := D6.kt q24 rfl
  have q29 : At (Ty.lst Ty.int H) s7 a7 (.tmp 12) := D6.done 6
  have q30 : At (Ty.nat (ordL H)) s7 a7 (.tmp 13) := D6.done 7
  have q31 : At (Ty.int (0 : Int)) s7 a7 (.tmp 14) := D6.done 8
  clear D6
  refine tn ?_
  refine wp_seq ?_
  refine wp_seq ?_
  refine reg (a := a7) (σ := s7) rfl (fun i_ => List.getD [(Ty.pr (Ty.int (0 : Int))), (Ty.pr (Ty.bool (decide ((0 : Int) ≠ (0 : Int))))), (Ty.pr (Ty.bool (decide ((0 : Int) ≠ (0 : Int))))), (Ty.pr (Ty.grd ((decide ((0 : Int) ≠ (0 : Int))) = false) (Ty.int (0 : Int)))), (Ty.pr (Ty.grd ((decide ((0 : Int) ≠ (0 : Int))) = false) (Ty.bool (decide ((0 : Int) ≠ (0 : Int)))))), (Ty.pr (Ty.bool ((decide ((0 : Int) ≠ (0 : Int))) || (decide ((0 : Int) ≠ (0 : Int)))))), (Ty.pr (Ty.bool ((decide ((0 : Int) ≠ (0 : Int))) || (decide ((0 : Int) ≠ (0 : Int)))))), (Ty.pr (Ty.grd (((decide ((0 : Int) ≠ (0 : Int))) || (decide ((0 : Int) ≠ (0 : Int)))) = false) (Ty.lst Ty.ints C))), (Ty.pr (Ty.grd (((decide ((0 : Int) ≠ (0 : Int))) || (decide ((0 : Int) ≠ (0 : Int)))) = false) (Ty.nat (List.length C)))), (Ty.pr (Ty.grd (((decide ((0 : Int) ≠ (0 : Int))) || (decide ((0 : Int) ≠ (0 : Int)))) = false) (Ty.nat (ordL H)))), (Ty.pr (Ty.grd (((decide ((0 : Int) ≠ (0 : Int))) || (decide ((0 : Int) ≠ (0 : Int)))) = false) (Ty.ref [(Ty.lst Ty.ints L)]))), (Ty.pr (Ty.grd (((decide ((0 : Int) ≠ (0 : Int))) || (decide ((0 : Int) ≠ (0 : Int)))) = false) (Ty.lst Ty.ints L))), (Ty.pr (Ty.grd (((decide ((0 : Int) ≠ (0 : Int))) || (decide ((0 : Int) ≠ (0 : Int)))) = false) (Ty.nat (List.length L)))), (Ty.pr (Ty.grd (((decide ((0 : Int) ≠ (0 : Int))) || (decide ((0 : Int) ≠ (0 : Int)))) = false) (Ty.nat ((ordL H) * (List.length L))))), (Ty.pr (Ty.grd (((decide ((0 : Int) ≠ (0 : Int))) || (decide ((0 : Int) ≠ (0 : Int)))) = false) (Ty.bool (decide ((((List.length C) : Nat) : Int) ≠ ((((ordL H) * (List.length L)) : Nat) : Int)))))), (Ty.pr (Ty.bool (((decide ((0 : Int) ≠ (0 : Int))) || (decide ((0 : Int) ≠ (0 : Int)))) || (decide ((((List.length C) : Nat) : Int) ≠ ((((ordL H) * (List.length L)) : Nat) : Int)))))), (Ty.pr (Ty.bool (((decide ((0 : Int) ≠ (0 : Int))) || (decide ((0 : Int) ≠ (0 : Int)))) || (decide ((((List.length C) : Nat) : Int) ≠ ((((ordL H) * (List.length L)) : Nat) : Int)))))), (Ty.pr (Ty.grd ((((decide ((0 : Int) ≠ (0 : Int))) || (decide ((0 : Int) ≠ (0 : Int)))) || (decide ((((List.length C) : Nat) : Int) ≠ ((((ordL H) * (List.length L)) : Nat) : Int)))) = false) (Ty.lst Ty.ints C))), (Ty.pr (Ty.grd ((((decide ((0 : Int) ≠ (0 : Int))) || (decide ((0 : Int) ≠ (0 : Int)))) || (decide ((((List.length C) : Nat) : Int) ≠ ((((ordL H) * (List.length L)) : Nat) : Int)))) = false) (Ty.nat (List.length C)))), (Ty.pr (Ty.grd ((((decide ((0 : Int) ≠ (0 : Int))) || (decide ((0 : Int) ≠ (0 : Int)))) || (decide ((((List.length C) : Nat) : Int) ≠ ((((ordL H) * (List.length L)) : Nat) : Int)))) = false) (Ty.bool (decide ((((List.length C) : Nat) : Int) = (0 : Int)))))), (Ty.pr (Ty.bool ((((decide ((0 : Int) ≠ (0 : Int))) || (decide ((0 : Int) ≠ (0 : Int)))) || (decide ((((List.length C) : Nat) : Int) ≠ ((((ordL H) * (List.length L)) : Nat) : Int)))) || (decide ((((List.length C) : Nat) : Int) = (0 : Int))))))] i_ Pr.any) ok7 rfl ⟨?_, ?_, ?_, ?_, ?_, ?_, ?_, ?_, ?_, ?_, ?_, ?_, ?_, ?_, ?_, ?_, ?_, ?_, ?_, ?_, ?_, trivial⟩ ?_
  · intro ax tx hs okx sm
    exact run_plain rfl (y_move (kp (sm 11 rfl) hs q28))
  · intro ax tx hs okx sm d0
    have e0 : At (Ty.int (0 : Int)) tx ax (.tmp 39) := d0 rfl
    exact run_plain rfl (y_neq e0 rfl)
  · intro ax tx hs okx sm d0
    have e1 : At (Ty.bool (decide ((0 : Int) ≠ (0 : Int)))) tx ax (.tmp 40) := d0 rfl
    exact run_plain rfl (y_move e1)
  · intro ax tx hs okx sm d0
    have e2 : At (Ty.bool (decide ((0 : Int) ≠ (0 : Int)))) tx ax (.tmp 41) := d0 rfl
    refine run_guard (T := (Ty.int (0 : Int))) okx rfl rfl (by decide) e2 (fun hg => ?_)
    have hp := of_decide_eq_false hg
    exact y_move (kp (sm 14 rfl) hs q31)
  · intro ax tx hs okx sm d0 d1
    have e3 : At (Ty.grd ((decide ((0 : Int) ≠ (0 : Int))) = false) (Ty.int (0 : Int))) tx ax (.tmp 42) := d0 rfl
    have e2 : At (Ty.bool (decide ((0 : Int) ≠ (0 : Int)))) tx ax (.tmp 41) := d1 rfl
    refine run_guard (T := (Ty.bool (decide ((0 : Int) ≠ (0 : Int))))) okx rfl rfl (by decide) e2 (fun hg => ?_)
    have hp := of_decide_eq_false hg
    exact y_neq (e3.1 hg) rfl
  · intro ax tx hs okx sm d0 d1
    have e2 : At (Ty.bool (decide ((0 : Int) ≠ (0 : Int)))) tx ax (.tmp 41) := d0 rfl
    have e4 : At (Ty.grd ((decide ((0 : Int) ≠ (0 : Int))) = false) (Ty.bool (decide ((0 : Int) ≠ (0 : Int))))) tx ax (.tmp 43) := d1 rfl
    exact run_plain rfl (y_pick_or e2 rfl e4)
  · intro ax tx hs okx sm d0 d1
    have e5 : At (Ty.bool ((decide ((0 : Int) ≠ (0 : Int))) || (decide ((0 : Int) ≠ (0 : Int))))) tx ax (.tmp 44) := d0 rfl
    have e2 : At (Ty.bool (decide ((0 : Int) ≠ (0 : Int)))) tx ax (.tmp 41) := d1 rfl
    exact run_plain rfl (y_move e5)
  · intro ax tx hs okx sm d0
    have e6 : At (Ty.bool ((decide ((0 : Int) ≠ (0 : Int))) || (decide ((0 : Int) ≠ (0 : Int))))) tx ax (.tmp 45) := d0 rfl
    refine run_guard (T := (Ty.lst Ty.ints C)) okx rfl rfl (by decide) e6 (fun hg => ?_)
    obtain ⟨d1, d2⟩ := Bool.or_eq_false_iff.mp hg
    have d1 := of_decide_eq_false d1
    have d2 := of_decide_eq_false d2
    exact y_move (kp (sm 10 rfl) hs q27)
  · intro ax tx hs okx sm d0 d1
    have e7 : At (Ty.grd (((decide ((0 : Int) ≠ (0 : Int))) || (decide ((0 : Int) ≠ (0 : Int)))) = false) (Ty.lst Ty.ints C)) tx ax (.tmp 46) := d0 rfl
    have e6 : At (Ty.bool ((decide ((0 : Int) ≠ (0 : Int))) || (decide ((0 : Int) ≠ (0 : Int))))) tx ax (.tmp 45) := d1 rfl
    refine run_guard (T := (Ty.nat (List.length C))) okx rfl rfl (by decide) e6 (fun hg => ?_)
    obtain ⟨d3, d4⟩ := Bool.or_eq_false_iff.mp hg
    have d3 := of_decide_eq_false d3
    have d4 := of_decide_eq_false d4
    exact y_len Try.underlying24 (e7.1 hg)
  · intro ax tx hs okx sm d0
    have e6 : At (Ty.bool ((decide ((0 : Int) ≠ (0 : Int))) || (decide ((0 : Int) ≠ (0 : Int))))) tx ax (.tmp 45) := d0 rfl
    refine run_guard (T := (Ty.nat (ordL H))) okx rfl rfl (by decide) e6 (fun hg => ?_)
    obtain ⟨d5, d6⟩ := Bool.or_eq_false_iff.mp hg
    have d5 := of_decide_eq_false d5
    have d6 := of_decide_eq_false d6
    exact y_move (kp (sm 13 rfl) hs q30)
  · intro ax tx hs okx sm d0
    have e6 : At (Ty.bool ((decide ((0 : Int) ≠ (0 : Int))) || (decide ((0 : Int) ≠ (0 : Int))))) tx ax (.tmp 45) := d0 rfl
    refine run_guard (T := (Ty.ref [(Ty.lst Ty.ints L)])) okx rfl rfl (by decide) e6 (fun hg => ?_)
    obtain ⟨d7, d8⟩ := Bool.or_eq_false_iff.mp hg
    have d7 := of_decide_eq_false d7
    have d8 := of_decide_eq_false d8
    exact y_field Try.fld31_2 Try.inf24 (by decide) (kp (sm 9 rfl) hs q26) rfl
  · intro ax tx hs okx sm d0 d1
    have e10 : At (Ty.grd (((decide ((0 : Int) ≠ (0 : Int))) || (decide ((0 : Int) ≠ (0 : Int)))) = false) (Ty.ref [(Ty.lst Ty.ints L)])) tx ax (.tmp 49) := d0 rfl
    have e6 : At (Ty.bool ((decide ((0 : Int) ≠ (0 : Int))) || (decide ((0 : Int) ≠ (0 : Int))))) tx ax (.tmp 45) := d1 rfl
    refine run_guard (T := (Ty.lst Ty.ints L)) okx rfl rfl (by decide) e6 (fun hg => ?_)
    obtain ⟨d9, d10⟩ := Bool.or_eq_false_iff.mp hg
    have d9 := of_decide_eq_false d9
    have d10 := of_decide_eq_false d10
    exact y_load Try.underlying24 rfl (e10.1 hg) rfl
  · intro ax tx hs okx sm d0 d1
    have e11 : At (Ty.grd (((decide ((0 : Int) ≠ (0 : Int))) || (decide ((0 : Int) ≠ (0 : Int)))) = false) (Ty.lst Ty.ints L)) tx ax (.tmp 50) := d0 rfl
    have e6 : At (Ty.bool ((decide ((0 : Int) ≠ (0 : Int))) || (decide ((0 : Int) ≠ (0 : Int))))) tx ax (.tmp 45) := d1 rfl
    refine run_guard (T := (Ty.nat (List.length L))) okx rfl rfl (by decide) e6 (fun hg => ?_)
    obtain ⟨d11, d12⟩ := Bool.or_eq_false_iff.mp hg
    have d11 := of_decide_eq_false d11
    have d12 := of_decide_eq_false d12
    exact y_len Try.underlying24 (e11.1 hg)
  · intro ax tx hs okx sm d0 d1 d2
    have e9 : At (Ty.grd (((decide ((0 : Int) ≠ (0 : Int))) || (decide ((0 : Int) ≠ (0 : Int)))) = false) (Ty.nat (ordL H))) tx ax (.tmp 48) := d0 rfl
    have e12 : At (Ty.grd (((decide ((0 : Int) ≠ (0 : Int))) || (decide ((0 : Int) ≠ (0 : Int)))) = false) (Ty.nat (List.length L))) tx ax (.tmp 51) := d1 rfl
    have e6 : At (Ty.bool ((decide ((0 : Int) ≠ (0 : Int))) || (decide ((0 : Int) ≠ (0 : Int))))) tx ax (.tmp 45) := d2 rfl
    refine run_guard (T := (Ty.nat ((ordL H) * (List.length L)))) okx rfl rfl (by decide) e6 (fun hg => ?_)
    obtain ⟨d13, d14⟩ := Bool.or_eq_false_iff.mp hg
    have d13 := of_decide_eq_false d13
    have d14 := of_decide_eq_false d14
    exact (y_mul (e9.1 hg) (e12.1 hg) (w64 (by omega) (by omega))).mono (fun τ _ h => cvi (σ := τ) (by first | omega | exact (Int.natCast_mul _ _).symm) h)
  · intro ax tx hs okx sm d0 d1 d2
    have e8 : At (Ty.grd (((decide ((0 : Int) ≠ (0 : Int))) || (decide ((0 : Int) ≠ (0 : Int)))) = false) (Ty.nat (List.length C))) tx ax (.tmp 47) := d0 rfl
    have e13 : At (Ty.grd (((decide ((0 : Int) ≠ (0 : Int))) || (decide ((0 : Int) ≠ (0 : Int)))) = false) (Ty.nat ((ordL H) * (List.length L)))) tx ax (.tmp 52) := d1 rfl
    have e6 : At (Ty.bool ((decide ((0 : Int) ≠ (0 : Int))) || (decide ((0 : Int) ≠ (0 : Int))))) tx ax (.tmp 45) := d2 rfl
    refine run_guard (T := (Ty.bool (decide ((((List.length C) : Nat) : Int) ≠ ((((ordL H) * (List.length L)) : Nat) : Int))))) okx rfl rfl (by decide) e6 (fun hg => ?_)
    obtain ⟨d15, d16⟩ := Bool.or_eq_false_iff.mp hg
    have d15 := of_decide_eq_false d15
    have d16 := of_decide_eq_false d16
    exact y_neq (e8.1 hg) (e13.1 hg)
  · intro ax tx hs okx sm d0 d1
    have e6 : At (Ty.bool ((decide ((0 : Int) ≠ (0 : Int))) || (decide ((0 : Int) ≠ (0 : Int))))) tx ax (.tmp 45) := d0 rfl
    have e14 : At (Ty.grd (((decide ((0 : Int) ≠ (0 : Int))) || (decide ((0 : Int) ≠ (0 : Int)))) = false) (Ty.bool (decide ((((List.length C) : Nat) : Int) ≠ ((((ordL H) * (List.length L)) : Nat) : Int))))) tx ax (.tmp 53) := d1 rfl
    exact run_plain rfl (y_pick_or e6 rfl e14)
  · intro ax tx hs okx sm d0 d1
    have e15 : At (Ty.bool (((decide ((0 : Int) ≠ (0 : Int))) || (decide ((0 : Int) ≠ (0 : Int)))) || (decide ((((List.length C) : Nat) : Int) ≠ ((((ordL H) * (List.length L)) : Nat) : Int))))) tx ax (.tmp 54) := d0 rfl
    have e6 : At (Ty.bool ((decide ((0 : Int) ≠ (0 : Int))) || (decide ((0 : Int) ≠ (0 : Int))))) tx ax (.tmp 45) := d1 rfl
    exact run_plain rfl (y_move e15)
  · intro ax tx hs okx sm d0
    have e16 : At (Ty.bool (((decide ((0 : Int) ≠ (0 : Int))) || (decide ((0 : Int) ≠ (0 : Int)))) || (decide ((((List.length C) : Nat) : Int) ≠ ((((ordL H) * (List.length L)) : Nat) : Int))))) tx ax (.tmp 55) := d0 rfl
    refine run_guard (T := (Ty.lst Ty.ints C)) okx rfl rfl (by decide) e16 (fun hg => ?_)
    obtain ⟨d17, d18⟩ := Bool.or_eq_false_iff.mp hg
    obtain ⟨d19, d20⟩ := Bool.or_eq_false_iff.mp d17
    have d19 := of_decide_eq_false d19
    have d20 := of_decide_eq_false d20
    have d18 := of_decide_eq_false d18
    exact y_move (kp (sm 10 rfl) hs q27)
  · intro ax tx hs okx sm d0 d1
    have e17 : At (Ty.grd ((((decide ((0 : Int) ≠ (0 : Int))) || (decide ((0 : Int) ≠ (0 : Int)))) || (decide ((((List.length C) : Nat) : Int) ≠ ((((ordL H) * (List.length L)) : Nat) : Int)))) = false) (Ty.lst Ty.ints C)) tx ax (.tmp 56) := d0 rfl
    have e16 : At (Ty.bool (((decide ((0 : Int) ≠ (0 : Int))) || (decide ((0 : Int) ≠ (0 : Int)))) || (decide ((((List.length C) : Nat) : Int) ≠ ((((ordL H) * (List.length L)) : Nat) : Int))))) tx ax (.tmp 55) := d1 rfl
    refine run_guard (T := (Ty.nat (List.length C))) okx rfl rfl (by decide) e16 (fun hg => ?_)
    obtain ⟨d21, d22⟩ := Bool.or_eq_false_iff.mp hg
    obtain ⟨d23, d24⟩ := Bool.or_eq_false_iff.mp d21
    have d23 := of_decide_eq_false d23
    have d24 := of_decide_eq_false d24
    have d22 := of_decide_eq_false d22
    exact y_len Try.underlying24 (e17.1 hg)
  · intro ax tx hs okx sm d0 d1
    have e18 : At (Ty.grd ((((decide ((0 : Int) ≠ (0 : Int))) || (decide ((0 : Int) ≠ (0 : Int)))) || (decide ((((List.length C) : Nat) : Int) ≠ ((((ordL H) * (List.length L)) : Nat) : Int)))) = false) (Ty.nat (List.length C))) tx ax (.tmp 57) := d0 rfl
    have e16 : At (Ty.bool (((decide ((0 : Int) ≠ (0 : Int))) || (decide ((0 : Int) ≠ (0 : Int)))) || (decide ((((List.length C) : Nat) : Int) ≠ ((((ordL H) * (List.length L)) : Nat) : Int))))) tx ax (.tmp 55) := d1 rfl
    refine run_guard (T := (Ty.bool (decide ((((List.length C) : Nat) : Int) = (0 : Int))))) okx rfl rfl (by decide) e16 (fun hg => ?_)
    obtain ⟨d25, d26⟩ := Bool.or_eq_false_iff.mp hg
    obtain ⟨d27, d28⟩ := Bool.or_eq_false_iff.mp d25
    have d27 := of_decide_eq_false d27
    have d28 := of_decide_eq_false d28
    have d26 := of_decide_eq_false d26
    exact y_eql (e18.1 hg) rfl
  · intro ax tx hs okx sm d0 d1
    have e16 : At (Ty.bool (((decide ((0 : Int) ≠ (0 : Int))) || (decide ((0 : Int) ≠ (0 : Int)))) || (decide ((((List.length C) : Nat) : Int) ≠ ((((ordL H) * (List.length L)) : Nat) : Int))))) tx ax (.tmp 55) := d0 rfl
    have e19 : At (Ty.grd ((((decide ((0 : Int) ≠ (0 : Int))) || (decide ((0 : Int) ≠ (0 : Int)))) || (decide ((((List.length C) : Nat) : Int) ≠ ((((ordL H) * (List.length L)) : Nat) : Int)))) = false) (Ty.bool (decide ((((List.length C) : Nat) : Int) = (0 : Int))))) tx ax (.tmp 58) := d1 rfl
    exact run_plain rfl (y_pick_or e16 rfl e19)
  intro a8 s8 D7
  have ok8 := D7.ok
  have F9 := F8.step0 D7.stp
  have q32 : At (Ty.int at_) s8 a8 (.tmp 3) := D7.kt q25 rfl
  have q33 : At (Ty.ref [(Ty.val (Value.string (ByteArray.mk #[84, 114, 105, 101, 100]))), (Ty.nat M), (Ty.lst Ty.ints L)]) s8 a8 (.tmp 9) := D7.kt q26 rfl
  have q34 : At (Ty.lst Ty.ints C) s8 a8 (.tmp 10) := D7.kt q27 rfl
  have q35 : At (Ty.lst Ty.int H) s8 a8 (.tmp 12) := D7.kt q29 rfl
  have q36 : At (Ty.bool ((((decide ((0 : Int) ≠ (0 : Int))) || (decide ((0 : Int) ≠ (0 : Int)))) || (decide ((((List.length C) : Nat) : Int) ≠ ((((ordL H) * (List.length L)) : Nat) : Int)))) || (decide ((((List.length C) : Nat) : Int) = (0 : Int))))) s8 a8 (.tmp 59) := D7.done 20
  clear D7
  refine tn ?_
  refine cond_t q36 (fun c2 => ?_) (fun c2 => ?_)
  ·
   exfalso
   simp only [Bool.or_eq_true, decide_eq_true_eq] at c2; omega
  ·
   obtain ⟨d29, d30⟩ := Bool.or_eq_false_iff.mp c2
   obtain ⟨d31, d32⟩ := Bool.or_eq_false_iff.mp d29
   obtain ⟨d33, d34⟩ := Bool.or_eq_false_iff.mp d31
   replace d33 := of_decide_eq_false d33
   replace d34 := of_decide_eq_false d34
   replace d32 := of_decide_eq_false d32
   replace d30 := of_decide_eq_false d30
   obtain ⟨hrw, hrl⟩ := hrow i (by omega); have hbd : ∀ j, j < (C.getD i []).length → 0 ≤ (C.getD i []).getD j 0 ∧ (C.getD i []).getD j 0 < (H.length : Int) := (fun j hj => by have := hrw.bds j hj; omega); have hjm := Nat.mod_lt (i + L.length) (show 0 < C.length by omega); have hx := hnx i (by omega); rw [← hcl] at hx
   refine wp_skip ?_
   refine tn ?_
   refine wp_seq ?_
   refine reg (a := a8) (σ := s8) rfl (fun i_ => List.getD [(Ty.pr (Ty.int at_)), (Ty.pr (Ty.lst Ty.ints C)), (Ty.pr (Ty.nat (List.length C))), (Ty.pr (Ty.nat i)), (Ty.pr (Ty.nat i))] i_ Pr.any) ok8 rfl ⟨?_, ?_, ?_, ?_, ?_, trivial⟩ ?_
   · intro ax tx hs okx sm
     exact run_plain rfl (y_move (kp (sm 3 rfl) hs q32))
   · intro ax tx hs okx sm
     exact run_plain rfl (y_move (kp (sm 10 rfl) hs q34))
   · intro ax tx hs okx sm d0
     have e1 : At (Ty.lst Ty.ints C) tx ax (.tmp 61) := d0 rfl
     exact run_plain rfl (y_len Try.underlying24 e1)
   · intro ax tx hs okx sm d0 d1
     have e0 : At (Ty.int at_) tx ax (.tmp 60) := d0 rfl
     have e2 : At (Ty.nat (List.length C)) tx ax (.tmp 62) := d1 rfl
     exact run_plain rfl ((y_call #[ax.eval (.tmp 60), ax.eval (.tmp 62)] Try.func8 rfl rfl (by simp only [List.map_toArray, List.map_cons, List.map_nil]) (pick_fn (at_) ((List.length C)) _ _ _ e0 e2 (by omega) (by omega))).mono (fun τ _ h => cvt (σ := τ) (T := (Ty.nat (pick (at_) ((List.length C))))) (U := (Ty.nat i)) (by rw [hii]) h))
   · intro ax tx hs okx sm d0 d1 d2 d3 d4 d5
     have e3 : At (Ty.nat i) tx ax (.tmp 63) := d0 rfl
     have e0 : At (Ty.int at_) tx ax (.tmp 60) := d2 rfl
     have e1 : At (Ty.lst Ty.ints C) tx ax (.tmp 61) := d3 rfl
     have e2 : At (Ty.nat (List.length C)) tx ax (.tmp 62) := d4 rfl
     exact run_plain rfl (y_assign e3)
   intro a9 s9 D8
   have ok9 := D8.ok
   have F10 := F9.step0 D8.stp
   have q37 : At (Ty.ref [(Ty.val (Value.string (ByteArray.mk #[84, 114, 105, 101, 100]))), (Ty.nat M), (Ty.lst Ty.ints L)]) s9 a9 (.tmp 9) := D8.kt q33 rfl
   have q38 : At (Ty.lst Ty.ints C) s9 a9 (.tmp 10) := D8.kt q34 rfl
   have q39 : At (Ty.lst Ty.int H) s9 a9 (.tmp 12) := D8.kt q35 rfl
   have q40 : At (Ty.nat i) s9 a9 (.tmp 15) := D8.done 4
   clear D8
   refine tn ?_
   refine wp_seq ?_
   refine reg (a := a9) (σ := s9) rfl (fun i_ => List.getD [(Ty.pr (Ty.nat i)), (Ty.pr (Ty.ref [(Ty.lst Ty.ints L)])), (Ty.pr (Ty.lst Ty.ints L)), (Ty.pr (Ty.nat (List.length L))), (Ty.pr (Ty.nat (i + (List.length L)))), (Ty.pr (Ty.lst Ty.ints C)), (Ty.pr (Ty.nat (List.length C))), (Ty.pr (Ty.nat ((i + (List.length L)) % (List.length C)))), (Ty.pr (Ty.nat ((i + (List.length L)) % (List.length C))))] i_ Pr.any) ok9 rfl ⟨?_, ?_, ?_, ?_, ?_, ?_, ?_, ?_, ?_, trivial⟩ ?_
   · intro ax tx hs okx sm
     exact run_plain rfl (y_move (kp (sm 15 rfl) hs q40))
   · intro ax tx hs okx sm
     exact run_plain rfl (y_field Try.fld31_2 Try.inf24 (by decide) (kp (sm 9 rfl) hs q37) rfl)
   · intro ax tx hs okx sm d0
     have e1 : At (Ty.ref [(Ty.lst Ty.ints L)]) tx ax (.tmp 65) := d0 rfl
     exact run_plain rfl (y_load Try.underlying24 rfl e1 rfl)
   · intro ax tx hs okx sm d0
     have e2 : At (Ty.lst Ty.ints L) tx ax (.tmp 66) := d0 rfl
     exact run_plain rfl (y_len Try.underlying24 e2)
   · intro ax tx hs okx sm d0 d1
     have e0 : At (Ty.nat i) tx ax (.tmp 64) := d0 rfl
     have e3 : At (Ty.nat (List.length L)) tx ax (.tmp 67) := d1 rfl
     exact run_plain rfl ((y_add e0 e3 (w64 (by omega) (by omega))).mono (fun τ _ h => cvi (σ := τ) (by first | omega | exact (Int.natCast_mul _ _).symm) h))
   · intro ax tx hs okx sm
     exact run_plain rfl (y_move (kp (sm 10 rfl) hs q38))
   · intro ax tx hs okx sm d0
     have e5 : At (Ty.lst Ty.ints C) tx ax (.tmp 69) := d0 rfl
     exact run_plain rfl (y_len Try.underlying24 e5)
   · intro ax tx hs okx sm d0 d1
     have e4 : At (Ty.nat (i + (List.length L))) tx ax (.tmp 68) := d0 rfl
     have e6 : At (Ty.nat (List.length C)) tx ax (.tmp 70) := d1 rfl
     exact run_plain rfl (y_remN e4 e6 (by omega))
   · intro ax tx hs okx sm d0 d1 d2 d3 d4 d5 d6 d7 d8
     have e7 : At (Ty.nat ((i + (List.length L)) % (List.length C))) tx ax (.tmp 71) := d0 rfl
     have e0 : At (Ty.nat i) tx ax (.tmp 64) := d1 rfl
     have e1 : At (Ty.ref [(Ty.lst Ty.ints L)]) tx ax (.tmp 65) := d2 rfl
     have e2 : At (Ty.lst Ty.ints L) tx ax (.tmp 66) := d3 rfl
     have e3 : At (Ty.nat (List.length L)) tx ax (.tmp 67) := d4 rfl
     have e4 : At (Ty.nat (i + (List.length L))) tx ax (.tmp 68) := d5 rfl
     have e5 : At (Ty.lst Ty.ints C) tx ax (.tmp 69) := d6 rfl
     have e6 : At (Ty.nat (List.length C)) tx ax (.tmp 70) := d7 rfl
     exact run_plain rfl (y_assign e7)
   intro a10 s10 D9
   have ok10 := D9.ok
   have F11 := F10.step0 D9.stp
   have q41 : At (Ty.ref [(Ty.val (Value.string (ByteArray.mk #[84, 114, 105, 101, 100]))), (Ty.nat M), (Ty.lst Ty.ints L)]) s10 a10 (.tmp 9) := D9.kt q37 rfl
   have q42 : At (Ty.lst Ty.ints C) s10 a10 (.tmp 10) := D9.kt q38 rfl
   have q43 : At (Ty.lst Ty.int H) s10 a10 (.tmp 12) := D9.kt q39 rfl
   have q44 : At (Ty.nat i) s10 a10 (.tmp 15) := D9.kt q40 rfl
   have q45 : At (Ty.nat ((i + (List.length L)) % (List.length C))) s10 a10 (.tmp 16) := D9.done 8
   clear D9
   refine tn ?_
   refine wp_seq ?_
   refine reg (a := a10) (σ := s10) rfl (fun i_ => List.getD [(Ty.pr (Ty.lst Ty.ints C)), (Ty.pr (Ty.ref [(Ty.lst Ty.int (C.getD ((0 : Int)).toNat []))])), (Ty.pr (Ty.lst Ty.int (C.getD ((0 : Int)).toNat []))), (Ty.pr (Ty.ref [(Ty.nat M), (Ty.lst Ty.ints L)])), (Ty.pr (Ty.nat M)), (Ty.pr (Ty.lst Ty.int (roundsL (M)))), (Ty.pr (Ty.bool (decide (((C.getD ((0 : Int)).toNat [])) = ((roundsL (M))))))), (Ty.pr (Ty.bool (decide (((C.getD ((0 : Int)).toNat [])) = ((roundsL (M))))))), (Ty.pr (Ty.grd ((decide (((C.getD ((0 : Int)).toNat [])) = ((roundsL (M))))) = true) (Ty.lst Ty.int H))), (Ty.pr (Ty.grd ((decide (((C.getD ((0 : Int)).toNat [])) = ((roundsL (M))))) = true) (Ty.lst Ty.ints C))), (Ty.pr (Ty.grd ((decide (((C.getD ((0 : Int)).toNat [])) = ((roundsL (M))))) = true) (Ty.nat i))), (Ty.pr (Ty.grd ((decide (((C.getD ((0 : Int)).toNat [])) = ((roundsL (M))))) = true) (Ty.ref [(Ty.lst Ty.int (C.getD i []))]))), (Ty.pr (Ty.grd ((decide (((C.getD ((0 : Int)).toNat [])) = ((roundsL (M))))) = true) (Ty.lst Ty.int (C.getD i [])))), (Ty.pr (Ty.grd ((decide (((C.getD ((0 : Int)).toNat [])) = ((roundsL (M))))) = true) (Ty.lst Ty.int (byL (H) ((C.getD i [])))))), (Ty.pr (Ty.grd ((decide (((C.getD ((0 : Int)).toNat [])) = ((roundsL (M))))) = true) (Ty.lst Ty.ints C))), (Ty.pr (Ty.grd ((decide (((C.getD ((0 : Int)).toNat [])) = ((roundsL (M))))) = true) (Ty.nat ((i + (List.length L)) % (List.length C))))), (Ty.pr (Ty.grd ((decide (((C.getD ((0 : Int)).toNat [])) = ((roundsL (M))))) = true) (Ty.ref [(Ty.lst Ty.int (C.getD ((i + (List.length L)) % (List.length C)) []))]))), (Ty.pr (Ty.grd ((decide (((C.getD ((0 : Int)).toNat [])) = ((roundsL (M))))) = true) (Ty.lst Ty.int (C.getD ((i + (List.length L)) % (List.length C)) [])))), (Ty.pr (Ty.grd ((decide (((C.getD ((0 : Int)).toNat [])) = ((roundsL (M))))) = true) (Ty.bool (decide (((byL (H) ((C.getD i [])))) = ((C.getD ((i + (List.length L)) % (List.length C)) []))))))), (Ty.pr (Ty.bool ((decide (((C.getD ((0 : Int)).toNat [])) = ((roundsL (M))))) && (decide (((byL (H) ((C.getD i [])))) = ((C.getD ((i + (List.length L)) % (List.length C)) []))))))), (Ty.pr (Ty.bool ((decide (((C.getD ((0 : Int)).toNat [])) = ((roundsL (M))))) && (decide (((byL (H) ((C.getD i [])))) = ((C.getD ((i + (List.length L)) % (List.length C)) [])))))))] i_ Pr.any) ok10 rfl ⟨?_, ?_, ?_, ?_, ?_, ?_, ?_, ?_, ?_, ?_, ?_, ?_, ?_, ?_, ?_, ?_, ?_, ?_, ?_, ?_, ?_, trivial⟩ ?_
   · intro ax tx hs okx sm
     exact run_plain rfl (y_move (kp (sm 10 rfl) hs q42))
   · intro ax tx hs okx sm d0
     have e0 : At (Ty.lst Ty.ints C) tx ax (.tmp 72) := d0 rfl
     exact run_plain rfl (y_index1 Try.underlying24 Try.inf22 e0 rfl (by omega) (lst_get Ty.ints C [] ((0 : Int)).toNat (by omega)))
   · intro ax tx hs okx sm d0
     have e1 : At (Ty.ref [(Ty.lst Ty.int (C.getD ((0 : Int)).toNat []))]) tx ax (.tmp 73) := d0 rfl
     exact run_plain rfl (y_load Try.underlying22 rfl e1 rfl)
   · intro ax tx hs okx sm
     exact run_plain rfl (y_field Try.fld31_1 Try.inf3 (by decide) (kp (sm 9 rfl) hs q41) rfl)
   · intro ax tx hs okx sm d0
     have e3 : At (Ty.ref [(Ty.nat M), (Ty.lst Ty.ints L)]) tx ax (.tmp 75) := d0 rfl
     exact run_plain rfl (y_load Try.underlying3 rfl e3 rfl)
   · intro ax tx hs okx sm d0
     have e4 : At (Ty.nat M) tx ax (.tmp 76) := d0 rfl
     exact run_plain rfl (y_call #[ax.eval (.tmp 76)] Try.func19 rfl rfl (by simp only [List.map_toArray, List.map_cons, List.map_nil]) (rRounds_fn (M) _ _ e4 (by omega)))
   · intro ax tx hs okx sm d0 d1 d2
     have e2 : At (Ty.lst Ty.int (C.getD ((0 : Int)).toNat [])) tx ax (.tmp 74) := d0 rfl
     have e5 : At (Ty.lst Ty.int (roundsL (M))) tx ax (.tmp 77) := d1 rfl
     exact run_plain rfl (y_call #[ax.eval (.tmp 74), ax.eval (.tmp 77)] Try.func18 rfl rfl (by simp only [List.map_toArray, List.map_cons, List.map_nil]) (rsame_fn ((C.getD ((0 : Int)).toNat [])) ((roundsL (M))) _ _ _ e2 e5 ))
   · intro ax tx hs okx sm d0 d1
     have e6 : At (Ty.bool (decide (((C.getD ((0 : Int)).toNat [])) = ((roundsL (M)))))) tx ax (.tmp 78) := d0 rfl
     exact run_plain rfl (y_move e6)
   · intro ax tx hs okx sm d0
     have e7 : At (Ty.bool (decide (((C.getD ((0 : Int)).toNat [])) = ((roundsL (M)))))) tx ax (.tmp 79) := d0 rfl
     refine run_guard (T := (Ty.lst Ty.int H)) okx rfl rfl (by decide) e7 (fun hg => ?_)
     exact y_move (kp (sm 12 rfl) hs q43)
   · intro ax tx hs okx sm d0
     have e7 : At (Ty.bool (decide (((C.getD ((0 : Int)).toNat [])) = ((roundsL (M)))))) tx ax (.tmp 79) := d0 rfl
     refine run_guard (T := (Ty.lst Ty.ints C)) okx rfl rfl (by decide) e7 (fun hg => ?_)
     exact y_move (kp (sm 10 rfl) hs q42)
   · intro ax tx hs okx sm d0
     have e7 : At (Ty.bool (decide (((C.getD ((0 : Int)).toNat [])) = ((roundsL (M)))))) tx ax (.tmp 79) := d0 rfl
     refine run_guard (T := (Ty.nat i)) okx rfl rfl (by decide) e7 (fun hg => ?_)
     exact y_move (kp (sm 15 rfl) hs q44)
   · intro ax tx hs okx sm d0 d1 d2
     have e9 : At (Ty.grd ((decide (((C.getD ((0 : Int)).toNat [])) = ((roundsL (M))))) = true) (Ty.lst Ty.ints C)) tx ax (.tmp 81) := d0 rfl
     have e10 : At (Ty.grd ((decide (((C.getD ((0 : Int)).toNat [])) = ((roundsL (M))))) = true) (Ty.nat i)) tx ax (.tmp 82) := d1 rfl
     have e7 : At (Ty.bool (decide (((C.getD ((0 : Int)).toNat [])) = ((roundsL (M)))))) tx ax (.tmp 79) := d2 rfl
     refine run_guard (T := (Ty.ref [(Ty.lst Ty.int (C.getD i []))])) okx rfl rfl (by decide) e7 (fun hg => ?_)
     exact y_index1 Try.underlying24 Try.inf22 (e9.1 hg) (e10.1 hg) (by omega) (lst_get Ty.ints C [] i (by omega))
   · intro ax tx hs okx sm d0 d1
     have e11 : At (Ty.grd ((decide (((C.getD ((0 : Int)).toNat [])) = ((roundsL (M))))) = true) (Ty.ref [(Ty.lst Ty.int (C.getD i []))])) tx ax (.tmp 83) := d0 rfl
     have e7 : At (Ty.bool (decide (((C.getD ((0 : Int)).toNat [])) = ((roundsL (M)))))) tx ax (.tmp 79) := d1 rfl
     refine run_guard (T := (Ty.lst Ty.int (C.getD i []))) okx rfl rfl (by decide) e7 (fun hg => ?_)
     exact y_load Try.underlying22 rfl (e11.1 hg) rfl
   · intro ax tx hs okx sm d0 d1 d2 d3
     have e8 : At (Ty.grd ((decide (((C.getD ((0 : Int)).toNat [])) = ((roundsL (M))))) = true) (Ty.lst Ty.int H)) tx ax (.tmp 80) := d0 rfl
     have e12 : At (Ty.grd ((decide (((C.getD ((0 : Int)).toNat [])) = ((roundsL (M))))) = true) (Ty.lst Ty.int (C.getD i []))) tx ax (.tmp 84) := d1 rfl
     have e7 : At (Ty.bool (decide (((C.getD ((0 : Int)).toNat [])) = ((roundsL (M)))))) tx ax (.tmp 79) := d2 rfl
     refine run_guard (T := (Ty.lst Ty.int (byL (H) ((C.getD i []))))) okx rfl rfl (by decide) e7 (fun hg => ?_)
     exact y_call #[ax.eval (.tmp 80), ax.eval (.tmp 84)] Try.func20 rfl rfl (by simp only [List.map_toArray, List.map_cons, List.map_nil]) (rBy_fn (H) ((C.getD i [])) _ _ _ (e8.1 hg) (e12.1 hg) (by first | assumption | omega) (by first | assumption | omega))
   · intro ax tx hs okx sm d0
     have e7 : At (Ty.bool (decide (((C.getD ((0 : Int)).toNat [])) = ((roundsL (M)))))) tx ax (.tmp 79) := d0 rfl
     refine run_guard (T := (Ty.lst Ty.ints C)) okx rfl rfl (by decide) e7 (fun hg => ?_)
     exact y_move (kp (sm 10 rfl) hs q42)
   · intro ax tx hs okx sm d0
     have e7 : At (Ty.bool (decide (((C.getD ((0 : Int)).toNat [])) = ((roundsL (M)))))) tx ax (.tmp 79) := d0 rfl
     refine run_guard (T := (Ty.nat ((i + (List.length L)) % (List.length C)))) okx rfl rfl (by decide) e7 (fun hg => ?_)
     exact y_move (kp (sm 16 rfl) hs q45)
   · intro ax tx hs okx sm d0 d1 d2
     have e14 : At (Ty.grd ((decide (((C.getD ((0 : Int)).toNat [])) = ((roundsL (M))))) = true) (Ty.lst Ty.ints C)) tx ax (.tmp 86) := d0 rfl
     have e15 : At (Ty.grd ((decide (((C.getD ((0 : Int)).toNat [])) = ((roundsL (M))))) = true) (Ty.nat ((i + (List.length L)) % (List.length C)))) tx ax (.tmp 87) := d1 rfl
     have e7 : At (Ty.bool (decide (((C.getD ((0 : Int)).toNat [])) = ((roundsL (M)))))) tx ax (.tmp 79) := d2 rfl
     refine run_guard (T := (Ty.ref [(Ty.lst Ty.int (C.getD ((i + (List.length L)) % (List.length C)) []))])) okx rfl rfl (by decide) e7 (fun hg => ?_)
     exact y_index1 Try.underlying24 Try.inf22 (e14.1 hg) (e15.1 hg) (by omega) (lst_get Ty.ints C [] ((i + (List.length L)) % (List.length C)) (by omega))
   · intro ax tx hs okx sm d0 d1
     have e16 : At (Ty.grd ((decide (((C.getD ((0 : Int)).toNat [])) = ((roundsL (M))))) = true) (Ty.ref [(Ty.lst Ty.int (C.getD ((i + (List.length L)) % (List.length C)) []))])) tx ax (.tmp 88) := d0 rfl
     have e7 : At (Ty.bool (decide (((C.getD ((0 : Int)).toNat [])) = ((roundsL (M)))))) tx ax (.tmp 79) := d1 rfl
     refine run_guard (T := (Ty.lst Ty.int (C.getD ((i + (List.length L)) % (List.length C)) []))) okx rfl rfl (by decide) e7 (fun hg => ?_)
     exact y_load Try.underlying22 rfl (e16.1 hg) rfl
   · intro ax tx hs okx sm d0 d1 d2 d3
     have e13 : At (Ty.grd ((decide (((C.getD ((0 : Int)).toNat [])) = ((roundsL (M))))) = true) (Ty.lst Ty.int (byL (H) ((C.getD i []))))) tx ax (.tmp 85) := d0 rfl
     have e17 : At (Ty.grd ((decide (((C.getD ((0 : Int)).toNat [])) = ((roundsL (M))))) = true) (Ty.lst Ty.int (C.getD ((i + (List.length L)) % (List.length C)) []))) tx ax (.tmp 89) := d1 rfl
     have e7 : At (Ty.bool (decide (((C.getD ((0 : Int)).toNat [])) = ((roundsL (M)))))) tx ax (.tmp 79) := d3 rfl
     refine run_guard (T := (Ty.bool (decide (((byL (H) ((C.getD i [])))) = ((C.getD ((i + (List.length L)) % (List.length C)) [])))))) okx rfl rfl (by decide) e7 (fun hg => ?_)
     exact y_call #[ax.eval (.tmp 85), ax.eval (.tmp 89)] Try.func18 rfl rfl (by simp only [List.map_toArray, List.map_cons, List.map_nil]) (rsame_fn ((byL (H) ((C.getD i [])))) ((C.getD ((i + (List.length L)) % (List.length C)) [])) _ _ _ (e13.1 hg) (e17.1 hg) )
   · intro ax tx hs okx sm d0 d1
     have e7 : At (Ty.bool (decide (((C.getD ((0 : Int)).toNat [])) = ((roundsL (M)))))) tx ax (.tmp 79) := d0 rfl
     have e18 : At (Ty.grd ((decide (((C.getD ((0 : Int)).toNat [])) = ((roundsL (M))))) = true) (Ty.bool (decide (((byL (H) ((C.getD i [])))) = ((C.getD ((i + (List.length L)) % (List.length C)) [])))))) tx ax (.tmp 90) := d1 rfl
     exact run_plain rfl (y_pick_and e7 e18 rfl)
   · intro ax tx hs okx sm d0 d1 d2 d3 d4 d5 d6 d7 d8 d9 d10 d11 d12 d13 d14 d15 d16 d17 d18 d19 d20 d21
     have e19 : At (Ty.bool ((decide (((C.getD ((0 : Int)).toNat [])) = ((roundsL (M))))) && (decide (((byL (H) ((C.getD i [])))) = ((C.getD ((i + (List.length L)) % (List.length C)) [])))))) tx ax (.tmp 91) := d0 rfl
     have e18 : At (Ty.grd ((decide (((C.getD ((0 : Int)).toNat [])) = ((roundsL (M))))) = true) (Ty.bool (decide (((byL (H) ((C.getD i [])))) = ((C.getD ((i + (List.length L)) % (List.length C)) [])))))) tx ax (.tmp 90) := d1 rfl
     have e0 : At (Ty.lst Ty.ints C) tx ax (.tmp 72) := d2 rfl
     have e1 : At (Ty.ref [(Ty.lst Ty.int (C.getD ((0 : Int)).toNat []))]) tx ax (.tmp 73) := d3 rfl
     have e2 : At (Ty.lst Ty.int (C.getD ((0 : Int)).toNat [])) tx ax (.tmp 74) := d4 rfl
     have e3 : At (Ty.ref [(Ty.nat M), (Ty.lst Ty.ints L)]) tx ax (.tmp 75) := d5 rfl
     have e4 : At (Ty.nat M) tx ax (.tmp 76) := d6 rfl
     have e5 : At (Ty.lst Ty.int (roundsL (M))) tx ax (.tmp 77) := d7 rfl
     have e6 : At (Ty.bool (decide (((C.getD ((0 : Int)).toNat [])) = ((roundsL (M)))))) tx ax (.tmp 78) := d8 rfl
     have e7 : At (Ty.bool (decide (((C.getD ((0 : Int)).toNat [])) = ((roundsL (M)))))) tx ax (.tmp 79) := d9 rfl
     have e8 : At (Ty.grd ((decide (((C.getD ((0 : Int)).toNat [])) = ((roundsL (M))))) = true) (Ty.lst Ty.int H)) tx ax (.tmp 80) := d10 rfl
     have e9 : At (Ty.grd ((decide (((C.getD ((0 : Int)).toNat [])) = ((roundsL (M))))) = true) (Ty.lst Ty.ints C)) tx ax (.tmp 81) := d11 rfl
     have e10 : At (Ty.grd ((decide (((C.getD ((0 : Int)).toNat [])) = ((roundsL (M))))) = true) (Ty.nat i)) tx ax (.tmp 82) := d12 rfl
     have e11 : At (Ty.grd ((decide (((C.getD ((0 : Int)).toNat [])) = ((roundsL (M))))) = true) (Ty.ref [(Ty.lst Ty.int (C.getD i []))])) tx ax (.tmp 83) := d13 rfl
     have e12 : At (Ty.grd ((decide (((C.getD ((0 : Int)).toNat [])) = ((roundsL (M))))) = true) (Ty.lst Ty.int (C.getD i []))) tx ax (.tmp 84) := d14 rfl
     have e13 : At (Ty.grd ((decide (((C.getD ((0 : Int)).toNat [])) = ((roundsL (M))))) = true) (Ty.lst Ty.int (byL (H) ((C.getD i []))))) tx ax (.tmp 85) := d15 rfl
     have e14 : At (Ty.grd ((decide (((C.getD ((0 : Int)).toNat [])) = ((roundsL (M))))) = true) (Ty.lst Ty.ints C)) tx ax (.tmp 86) := d16 rfl
     have e15 : At (Ty.grd ((decide (((C.getD ((0 : Int)).toNat [])) = ((roundsL (M))))) = true) (Ty.nat ((i + (List.length L)) % (List.length C)))) tx ax (.tmp 87) := d17 rfl
     have e16 : At (Ty.grd ((decide (((C.getD ((0 : Int)).toNat [])) = ((roundsL (M))))) = true) (Ty.ref [(Ty.lst Ty.int (C.getD ((i + (List.length L)) % (List.length C)) []))])) tx ax (.tmp 88) := d18 rfl
     have e17 : At (Ty.grd ((decide (((C.getD ((0 : Int)).toNat [])) = ((roundsL (M))))) = true) (Ty.lst Ty.int (C.getD ((i + (List.length L)) % (List.length C)) []))) tx ax (.tmp 89) := d19 rfl
     exact run_plain rfl (y_assign e19)
   intro a11 s11 D10
   have ok11 := D10.ok
   have F12 := F11.step0 D10.stp
   have q46 : At (Ty.bool ((decide (((C.getD ((0 : Int)).toNat [])) = ((roundsL (M))))) && (decide (((byL (H) ((C.getD i [])))) = ((C.getD ((i + (List.length L)) % (List.length C)) [])))))) s11 a11 (.tmp 8) := D10.done 20
   clear D10
   refine tn ?_
   refine wp_ret ?_
   exact ret1 rfl ok11 F12 (cvb (by (rw [hx]; simp only [decide_true, Bool.and_true]; exact decide_eq_true hz)) q46)


end Go.Proofs.Ytmdaialaphkhfag
