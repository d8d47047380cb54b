/- The functions that the law TopMusic reaches, each by its contract. Part 4. -/
import Derived.Test.YtbilebfnanlgfaaTopMusicW3
namespace Go.Proofs.Ytbilebfnanlgfaa
open Go.KL

set_option maxHeartbeats 4000000 in
set_option maxRecDepth 100000 in
theorem topMusic_fn (raw : List Int) (n : Int) (star : Int) (σ : GW)  (v0 v1 v2 : Value) (hv0 : Ty.has (Ty.lst Ty.int raw) σ v0) (hv1 : Ty.has (Ty.int n) σ v1) (hv2 : Ty.has (Ty.int star) σ v2)  (hraw : ∀ x ∈ raw, -9223372036854775808 ≤ x ∧ x ≤ 9223372036854775807) (hn : -9223372036854775808 ≤ n ∧ n ≤ 9223372036854775807) (hstar : -9223372036854775808 ≤ star ∧ star ≤ 9223372036854775807) :
    FnC Try.prog 8 #[v0, v1, v2] σ (Ty.bool true) := by
 have hr : ∀ k, -9223372036854775808 ≤ rawAt raw k ∧ rawAt raw k ≤ 9223372036854775807 := fun k => rawAt_bd hraw k
 have hp_n := pick_lt n (n := 5) (by omega)
 obtain ⟨M, hM⟩ : ∃ M, M = 1 + pick n 5 := ⟨_, rfl⟩
 have hfp := fct_pos M
 have hf5 := fct_mono (show M ≤ 5 by omega)
 have hf120 : fct 5 = 120 := rfl
 obtain ⟨r, hr_⟩ : ∃ r, r = atL M (pick (rawAt raw 0) (fct M)) := ⟨_, rfl⟩
 have hpk := pick_lt (rawAt raw 0) (n := fct M) hfp
 have hrr : IsRow r := by (rw [hr_]; exact at_row (by omega) (by omega) hpk)
 have hrl : r.length = M := by (rw [hr_, at_len])
 obtain ⟨ST, hST⟩ : ∃ ST, ST = pick star (M + 1) := ⟨_, rfl⟩
 have hat : ∀ k, k < fct M → IsRow (atL M k) := fun k hk => at_row (by omega) (by omega) hk
 obtain ⟨hp1, hp2, hp3⟩ := tm_pat (raw := raw) (star := ST) hrr hrl
 obtain ⟨hu1, hu2⟩ := tm_law (raw := raw) (star := ST) hrr hrl (by omega) hat
 refine fn_intro0 Try.func8 rfl Try.ntmps8 (Nat.le_of_ble_eq_true rfl) (fun s0 a0 hle F0 ok0 hargs => ?_)
 have p0 : At (Ty.lst Ty.int raw) s0 a0 (.tmp 0) := by have e := hargs 0 _ rfl; show Ty.has _ _ _; rw [e]; exact Ty.up _ hle hv0
 have b1 := sl_le p0
 have p1 : At (Ty.int n) s0 a0 (.tmp 1) := by have e := hargs 1 _ rfl; show Ty.has _ _ _; rw [e]; exact Ty.up _ hle hv1
 have p2 : At (Ty.int star) s0 a0 (.tmp 2) := by have e := hargs 2 _ rfl; show Ty.has _ _ _; rw [e]; exact Ty.up _ hle hv2
 clear hargs; refine wp_seq ?_
 refine rg a0 s0 [(Ty.bool false)] ok0 ⟨?_, trivial⟩ ?_
 · intro A B E G H; exact rP (y_assign rfl)
 intro a1 s1 D1; have ok1 := D1.ok; have F1 := F0.step0 D1.stp; have q1 := D1.kt p0 rfl; have q2 := D1.kt p1 rfl; have q3 := D1.kt p2 rfl; clear D1; refine tn ?_; refine wp_seq ?_; refine wp_seq ?_
 refine rg a1 s1 [(Ty.lst Ty.int raw), (Ty.nat (List.length raw)), (Ty.bool (decide ((64 : Int) < (((List.length raw) : Nat) : Int))))] ok1 ⟨?_, ?_, ?_, trivial⟩ ?_
 · intro A B E G H; exact rP (y_move (kp (H 0 rfl) E q1))
 · intro A B E G H d0; exact rP (y_len Try.underlying23 (ed d0 rfl rfl rfl))
 · intro A B E G H d0; exact rP (y_gtr (ed d0 rfl rfl rfl) rfl)
 intro a2 s2 D2; have ok2 := D2.ok; have F2 := F1.step0 D2.stp; have q4 := D2.kt q1 rfl; have q5 := D2.kt q2 rfl; have q6 := D2.kt q3 rfl; have q7 := D2.dn 2 rfl rfl; clear D2; refine tn ?_
 refine cond_p (p := ((64 : Int) < (((List.length raw) : Nat) : Int))) q7 (fun c1 => ?_) (fun c1 => ?_)
 ·
  refine wp_seq ?_
  refine rg a2 s2 [(Ty.bool true)] ok2 ⟨?_, trivial⟩ ?_
  · intro A B E G H; exact rP (y_assign rfl)
  intro a3 s3 D3; have ok3 := D3.ok; have F3 := F2.step0 D3.stp; have q8 := D3.dn 0 rfl rfl; clear D3; refine tn ?_; refine wp_ret ?_
  refine tr ?_
  exact retL1 rfl ok3 F3 q8
 ·
  refine wp_skip ?_
  refine tn ?_; refine wp_seq ?_
  refine rg a2 s2 [(Ty.int n), (Ty.nat (pick (n) (5))), (Ty.nat (1 + (pick (n) (5)))), (Ty.nat (1 + (pick (n) (5))))] ok2 ⟨?_, ?_, ?_, ?_, trivial⟩ ?_
  · intro A B E G H; exact rP (y_move (kp (H 1 rfl) E q5))
  · intro A B E G H d0; exact rP (y_call #[A.eval (.tmp 20), A.eval ((Operand.const (Value.int IntKind.i64 5)))] Try.func18 rfl rfl (by simp only [List.map_toArray, List.map_cons, List.map_nil]) (pick_fn (n) (5) _ _ _ (cvi (σ := B) (by omega) (ed d0 rfl rfl rfl)) (cvi (σ := B) (by omega) rfl) (by omega) (by omega)))
  · intro A B E G H d0; exact rP ((y_add rfl (ed d0 rfl rfl rfl) (w64 (by omega) (by omega))).mono (fun τ _ h => cvi (σ := τ) (by first | omega | exact (Int.natCast_mul _ _).symm) h))
  · intro A B E G H d0 d1 d2 d3 d4; exact rP (y_assign (ed d0 rfl rfl rfl))
  intro a4 s4 D4; have ok4 := D4.ok; have F4 := F2.step0 D4.stp; have q9 := D4.kt q4 rfl; have q10 := D4.kt q6 rfl; have q11 := D4.dn 3 rfl rfl; clear D4
  have q12 : At (Ty.nat M) s4 a4 (.tmp 1) := (cvi (by (rw [hM])) q11)
  refine tn ?_; refine wp_seq ?_
  refine rg a4 s4 [(Ty.lst Ty.int raw), (Ty.int (rawAt raw (0))), (Ty.nat M), (Ty.lst Ty.int r), (Ty.lst Ty.int r)] ok4 ⟨?_, ?_, ?_, ?_, ?_, trivial⟩ ?_
  · intro A B E G H; exact rP (y_move (kp (H 0 rfl) E q9))
  · intro A B E G H d0; exact rP (y_call #[A.eval (.tmp 23), A.eval ((Operand.const (Value.int IntKind.i64 0)))] Try.func32 rfl rfl (by simp only [List.map_toArray, List.map_cons, List.map_nil]) (raw_fn (raw) (0) _ _ _ (ed d0 rfl rfl rfl) (cvi (σ := B) (by omega) rfl) ))
  · intro A B E G H; exact rP (y_move (kp (H 1 rfl) E q12))
  · intro A B E G H d0 d1 d2; exact rP ((y_call #[A.eval (.tmp 24), A.eval (.tmp 25)] Try.func31 rfl rfl (by simp only [List.map_toArray, List.map_cons, List.map_nil]) (rRowOf_fn ((rawAt raw (0))) (M) _ _ _ (cvi (σ := B) (by first | omega | exact hr _ | assumption) (ed d0 rfl rfl rfl)) (cvi (σ := B) (by first | omega | exact hr _ | assumption) (ed d1 rfl rfl rfl)) (by first | omega | exact hr _ | assumption) (by first | omega | exact hr _ | assumption))).mono (fun τ _ h => cvt (σ := τ) (T := (Ty.lst Ty.int (atL (M) (pick ((rawAt raw (0))) (fct (M)))))) (U := (Ty.lst Ty.int r)) (by rw [hr_]) h))
  · intro A B E G H d0 d1 d2 d3 d4 d5; exact rP (y_assign (ed d0 rfl rfl rfl))
  intro a5 s5 D5; have ok5 := D5.ok; have F5 := F4.step0 D5.stp; have q13 := D5.kt q9 rfl; have q14 := D5.kt q10 rfl; have q15 := D5.kt q12 rfl; have q16 := D5.dn 4 rfl rfl; clear D5; refine tn ?_; refine wp_seq ?_
  refine rg a5 s5 [(Ty.val (Value.string (ByteArray.mk #[])))] ok5 ⟨?_, trivial⟩ ?_
  · intro A B E G H; exact rP (y_assign rfl)
  intro a6 s6 D6; have ok6 := D6.ok; have F6 := F5.step0 D6.stp; have q17 := D6.kt q13 rfl; have q18 := D6.kt q14 rfl; have q19 := D6.kt q15 rfl; have q20 := D6.kt q16 rfl; have q21 := D6.dn 0 rfl rfl; clear D6; refine tn ?_; refine wp_seq ?_
  refine rg a6 s6 [(Ty.int (0 : Int))] ok6 ⟨?_, trivial⟩ ?_
  · intro A B E G H; exact rP (y_assign rfl)
  intro a7 s7 D7; have ok7 := D7.ok; have F7 := F6.step0 D7.stp; have q22 := D7.kt q17 rfl; have q23 := D7.kt q18 rfl; have q24 := D7.kt q19 rfl; have q25 := D7.kt q20 rfl; have q26 := D7.kt q21 rfl; have q27 := D7.dn 0 rfl rfl; clear D7; refine tn ?_; refine wp_seq ?_
  refine rg a7 s7 [(Ty.int star), (Ty.nat M), (Ty.nat (M + 1)), (Ty.nat (pick (star) ((M + 1)))), (Ty.nat (pick (star) ((M + 1))))] ok7 ⟨?_, ?_, ?_, ?_, ?_, trivial⟩ ?_
  · intro A B E G H; exact rP (y_move (kp (H 2 rfl) E q23))
  · intro A B E G H; exact rP (y_move (kp (H 1 rfl) E q24))
  · intro A B E G H d0; exact rP ((y_add (ed d0 rfl rfl rfl) rfl (w64 (by omega) (by omega))).mono (fun τ _ h => cvi (σ := τ) (by first | omega | exact (Int.natCast_mul _ _).symm) h))
  · intro A B E G H d0 d1; exact rP (y_call #[A.eval (.tmp 27), A.eval (.tmp 29)] Try.func18 rfl rfl (by simp only [List.map_toArray, List.map_cons, List.map_nil]) (pick_fn (star) ((M + 1)) _ _ _ (cvi (σ := B) (by omega) (ed d0 rfl rfl rfl)) (cvi (σ := B) (by omega) (ed d1 rfl rfl rfl)) (by omega) (by omega)))
  · intro A B E G H d0 d1 d2 d3 d4 d5; exact rP (y_assign (ed d0 rfl rfl rfl))
  intro a8 s8 D8; have ok8 := D8.ok; have F8 := F7.step0 D8.stp; have q28 := D8.kt q22 rfl; have q29 := D8.kt q24 rfl; have q30 := D8.kt q25 rfl; have q31 := D8.kt q26 rfl; have q32 := D8.kt q27 rfl; have q33 := D8.dn 4 rfl rfl; clear D8
  have q34 : At (Ty.nat ST) s8 a8 (.tmp 2) := (cvi (by (rw [hST])) q33)
  refine tn ?_; refine wp_seq ?_; refine wp_seq ?_
  refine rg a8 s8 [(Ty.int (0 : Int))] ok8 ⟨?_, trivial⟩ ?_
  · intro A B E G H; exact rP (y_assign rfl)
  intro a9 s9 D9; have ok9 := D9.ok; have F9 := F8.step0 D9.stp; have q35 := D9.kt q28 rfl; have q36 := D9.kt q29 rfl; have q37 := D9.kt q30 rfl; have q38 := D9.kt q31 rfl; have q39 := D9.kt q32 rfl; have q40 := D9.kt q34 rfl; have q41 := D9.dn 0 rfl rfl; clear D9; refine tn ?_
  refine wp_block ?_
  refine loop (fun n1 a10 w1 => ∃ (t1 : GW) (i : Nat), t1.w = w1 ∧ FromL [] s0 t1 ∧ Ok 118 a10 ∧ At (Ty.nat i) t1 a10 (.tmp 10) ∧ At (Ty.val (Value.string (bsL (tmB raw r ST i)))) t1 a10 (.tmp 8) ∧ At (Ty.nat (tmF raw i)) t1 a10 (.tmp 9) ∧ At (Ty.lst Ty.int raw) t1 a10 (.tmp 0) ∧ At (Ty.nat M) t1 a10 (.tmp 1) ∧ At (Ty.lst Ty.int r) t1 a10 (.tmp 7) ∧ At (Ty.nat ST) t1 a10 (.tmp 2) ∧ (i ≤ M) ∧ n1 = M - i) (M - (0)) ?_ ?_
  ·
   exact ⟨s9, 0, rfl, F9, ok9, (cvi (by (first | rfl | omega | (simp_all; done) | (simp_all; omega))) q41), (cvt (by (rfl)) q38), (cvi (by (rfl)) q39), q35, q36, q37, q40, by omega, rfl⟩
  ·
   rintro n2 a11 w2 ⟨t2, i, rfl, F10, ok10, q42, q43, q44, q45, q46, q47, q48, hi, rfl⟩
   have htf := tmF_le (raw := raw) i
   have htk := (tm_ok (raw := raw) (star := ST) hrr hrl i (by omega)).len
   have hbz : (bsL (tmB raw r ST i)).size ≤ 12 := by (rw [bsL_size]; have h_ : (tmL raw r ST i).length = (tmB raw r ST i).length := List.length_map ..; rw [← h_, htk]; split <;> omega)
   have hz1_ : (ByteArray.mk #[42]).size = 1 := rfl
   have hz2_ : (ByteArray.mk #[63]).size = 1 := rfl
   have hz4_ : (bsL (tmB raw r ST i) ++ ByteArray.mk #[42]).size = (bsL (tmB raw r ST i)).size + 1 := ByteArray.size_append
   refine wp_seq ?_; refine wp_seq ?_
   refine reg (a := a11) (σ := t2) rfl (fun i_ => List.getD [(Ty.pr (Ty.nat i)), (Ty.pr (Ty.nat M)), (Ty.pr (Ty.bool (decide (((i : Nat) : Int) < ((M : Nat) : Int)))))] i_ Pr.any) ok10 rfl ⟨?_, ?_, ?_, trivial⟩ ?_
   · intro A B E G H; exact rP (y_move (kp (H 10 rfl) E q42))
   · intro A B E G H; exact rP (y_move (kp (H 1 rfl) E q46))
   · intro A B E G H d0 d1; exact rP (y_lss (ed d0 rfl rfl rfl) (ed d1 rfl rfl rfl))
   intro a12 s10 D10; have ok11 := D10.ok; have F11 := F10.step0 D10.stp; have q49 := D10.kt q42 rfl; have q50 := D10.kt q43 rfl; have q51 := D10.kt q44 rfl; have q52 := D10.kt q45 rfl; have q53 := D10.kt q46 rfl; have q54 := D10.kt q47 rfl; have q55 := D10.kt q48 rfl; have q56 := D10.dn 2 rfl rfl; clear D10; refine tn ?_
   refine cond_p (p := (((i : Nat) : Int) < ((M : Nat) : Int))) q56 (fun c2 => ?_) (fun c2 => ?_)
   ·
    have h12 := hrr.lt12 (show i < r.length by omega)
    refine wp_skip ?_
    refine tn ?_; refine wp_seq ?_
    refine wp_block ?_
    refine wp_seq ?_; refine wp_seq ?_
    refine rg a12 s10 [(Ty.nat i), (Ty.nat ST), (Ty.bool (decide (((i : Nat) : Int) = ((ST : Nat) : Int))))] ok11 ⟨?_, ?_, ?_, trivial⟩ ?_
    · intro A B E G H; exact rP (y_move (kp (H 10 rfl) E q49))
    · intro A B E G H; exact rP (y_move (kp (H 2 rfl) E q55))
    · intro A B E G H d0 d1; exact rP (y_eql (ed d0 rfl rfl rfl) (ed d1 rfl rfl rfl))
    intro a13 s11 D11; have ok12 := D11.ok; have F12 := F11.step0 D11.stp; have q57 := D11.kt q49 rfl; have q58 := D11.kt q50 rfl; have q59 := D11.kt q51 rfl; have q60 := D11.kt q52 rfl; have q61 := D11.kt q53 rfl; have q62 := D11.kt q54 rfl; have q63 := D11.kt q55 rfl; have q64 := D11.dn 2 rfl rfl; clear D11; refine tn ?_
    refine cond_p (p := (((i : Nat) : Int) = ((ST : Nat) : Int))) q64 (fun c3 => ?_) (fun c3 => ?_)
    ·
     refine rg a13 s11 [(Ty.val (Value.string (bsL (tmB raw r ST i)))), (Ty.val (Value.string ((bsL (tmB raw r ST i)) ++ (ByteArray.mk #[42])))), (Ty.val (Value.string ((bsL (tmB raw r ST i)) ++ (ByteArray.mk #[42]))))] ok12 ⟨?_, ?_, ?_, trivial⟩ ?_
     · intro A B E G H; exact rP (y_move (kp (H 8 rfl) E q58))
     · intro A B E G H d0; exact rP (y_scat (ed d0 rfl rfl rfl) rfl (by omega))
     · intro A B E G H d0 d1 d2; exact rP (y_assign (ed d0 rfl rfl rfl))
     intro a14 s12 D12; have ok13 := D12.ok; have F13 := F12.step0 D12.stp; have q65 := D12.kt q57 rfl; have q66 := D12.kt q59 rfl; have q67 := D12.kt q60 rfl; have q68 := D12.kt q61 rfl; have q69 := D12.kt q62 rfl; have q70 := D12.kt q63 rfl; have q71 := D12.dn 2 rfl rfl; clear D12; refine tn ?_; refine wp_seq ?_
     refine rg a14 s12 [(Ty.lst Ty.int raw), (Ty.nat i), (Ty.nat (i + 1)), (Ty.int (rawAt raw ((i + 1)))), (Ty.int (Int.tmod (rawAt raw ((i + 1))) 3)), (Ty.bool (decide ((Int.tmod (rawAt raw ((i + 1))) 3) = (0 : Int))))] ok13 ⟨?_, ?_, ?_, ?_, ?_, ?_, trivial⟩ ?_
     · intro A B E G H; exact rP (y_move (kp (H 0 rfl) E q67))
     · intro A B E G H; exact rP (y_move (kp (H 10 rfl) E q65))
     · intro A B E G H d0; exact rP ((y_add (ed d0 rfl rfl rfl) rfl (w64 (by omega) (by omega))).mono (fun τ _ h => cvi (σ := τ) (by first | omega | exact (Int.natCast_mul _ _).symm) h))
     · intro A B E G H d0 d1; exact rP (y_call #[A.eval (.tmp 41), A.eval (.tmp 43)] Try.func32 rfl rfl (by simp only [List.map_toArray, List.map_cons, List.map_nil]) (raw_fn (raw) ((i + 1)) _ _ _ (ed d0 rfl rfl rfl) (cvi (σ := B) (by omega) (ed d1 rfl rfl rfl)) ))
     · intro A B E G H d0; exact rP (y_remI (n := 3) (ed d0 rfl rfl rfl) rfl (by decide))
     · intro A B E G H d0; exact rP (y_eql (ed d0 rfl rfl rfl) rfl)
     intro a15 s13 D13; have ok14 := D13.ok; have F14 := F13.step0 D13.stp; have q72 := D13.kt q65 rfl; have q73 := D13.kt q66 rfl; have q74 := D13.kt q67 rfl; have q75 := D13.kt q68 rfl; have q76 := D13.kt q69 rfl; have q77 := D13.kt q70 rfl; have q78 := D13.kt q71 rfl; have q79 := D13.dn 5 rfl rfl; clear D13; refine tn ?_
     refine cond_p (p := ((Int.tmod (rawAt raw ((i + 1))) 3) = (0 : Int))) q79 (fun c4 => ?_) (fun c4 => ?_)
     ·
      refine wp_seq ?_
      refine rg a15 s13 [(Ty.nat (tmF raw i)), (Ty.nat ((tmF raw i) + 1)), (Ty.nat ((tmF raw i) + 1))] ok14 ⟨?_, ?_, ?_, trivial⟩ ?_
      · intro A B E G H; exact rP (y_move (kp (H 9 rfl) E q73))
      · intro A B E G H d0; exact rP ((y_add (ed d0 rfl rfl rfl) rfl (w64 (by omega) (by omega))).mono (fun τ _ h => cvi (σ := τ) (by first | omega | exact (Int.natCast_mul _ _).symm) h))
      · intro A B E G H d0 d1 d2; exact rP (y_assign (ed d0 rfl rfl rfl))
      intro a16 s14 D14; have ok15 := D14.ok; have F15 := F14.step0 D14.stp; have q80 := D14.kt q72 rfl; have q81 := D14.kt q74 rfl; have q82 := D14.kt q75 rfl; have q83 := D14.kt q76 rfl; have q84 := D14.kt q77 rfl; have q85 := D14.kt q78 rfl; have q86 := D14.dn 2 rfl rfl; clear D14; refine tn ?_
      refine rg a16 s14 [(Ty.val (Value.string ((bsL (tmB raw r ST i)) ++ (ByteArray.mk #[42])))), (Ty.val (Value.string (((bsL (tmB raw r ST i)) ++ (ByteArray.mk #[42])) ++ (ByteArray.mk #[63])))), (Ty.val (Value.string (((bsL (tmB raw r ST i)) ++ (ByteArray.mk #[42])) ++ (ByteArray.mk #[63]))))] ok15 ⟨?_, ?_, ?_, trivial⟩ ?_
      · intro A B E G H; exact rP (y_move (kp (H 8 rfl) E q85))
      · intro A B E G H d0; exact rP (y_scat (ed d0 rfl rfl rfl) rfl (by omega))
      · intro A B E G H d0 d1 d2; exact rP (y_assign (ed d0 rfl rfl rfl))
      intro a17 s15 D15; have ok16 := D15.ok; have F16 := F15.step0 D15.stp; have q87 := D15.kt q80 rfl; have q88 := D15.kt q81 rfl; have q89 := D15.kt q82 rfl; have q90 := D15.kt q83 rfl; have q91 := D15.kt q84 rfl; have q92 := D15.kt q86 rfl; have q93 := D15.dn 2 rfl rfl; clear D15; refine bn ?_; refine tn ?_
      refine rg a17 s15 [(Ty.nat i), (Ty.nat (i + 1)), (Ty.nat (i + 1))] ok16 ⟨?_, ?_, ?_, trivial⟩ ?_
      · intro A B E G H; exact rP (y_move (kp (H 10 rfl) E q87))
      · intro A B E G H d0; exact rP ((y_add (ed d0 rfl rfl rfl) rfl (w64 (by omega) (by omega))).mono (fun τ _ h => cvi (σ := τ) (by first | omega | exact (Int.natCast_mul _ _).symm) h))
      · intro A B E G H d0 d1 d2; exact rP (y_assign (ed d0 rfl rfl rfl))
      intro a18 s16 D16; have ok17 := D16.ok; have F17 := F16.step0 D16.stp; have q94 := D16.kt q88 rfl; have q95 := D16.kt q89 rfl; have q96 := D16.kt q90 rfl; have q97 := D16.kt q91 rfl; have q98 := D16.kt q92 rfl; have q99 := D16.kt q93 rfl; have q100 := D16.dn 2 rfl rfl; clear D16
      exact tn ⟨M - ((i+1)), by omega, s16, (i+1), rfl, F17, ok17, (cvi (by (first | rfl | omega | (simp_all; done) | (simp_all; omega))) q100), (cvt (by (rw [tm_sq c3 c4])) q99), (cvi (by (rw [tm_yes c4])) q98), q94, q95, q96, q97, by omega, rfl⟩
     ·
      have hz3_ : (ByteArray.extract SIGNS (r.getD i 0).toNat (r.getD i 0 + 1).toNat).size = 1 := (by rw [tmC_s hrr (by omega) c4]; rfl)
      refine rg a15 s13 [(Ty.val (Value.string ((bsL (tmB raw r ST i)) ++ (ByteArray.mk #[42])))), (Ty.lst Ty.int r), (Ty.nat i), (Ty.ref [(Ty.int (r.getD i 0))]), (Ty.int (r.getD i 0)), (Ty.val (Value.string (ByteArray.extract SIGNS (((r.getD i 0))).toNat (((r.getD i 0)) + 1).toNat))), (Ty.val (Value.string (((bsL (tmB raw r ST i)) ++ (ByteArray.mk #[42])) ++ (ByteArray.extract SIGNS (((r.getD i 0))).toNat (((r.getD i 0)) + 1).toNat)))), (Ty.val (Value.string (((bsL (tmB raw r ST i)) ++ (ByteArray.mk #[42])) ++ (ByteArray.extract SIGNS (((r.getD i 0))).toNat (((r.getD i 0)) + 1).toNat))))] ok14 ⟨?_, ?_, ?_, ?_, ?_, ?_, ?_, ?_, trivial⟩ ?_
      · intro A B E G H; exact rP (y_move (kp (H 8 rfl) E q78))
      · intro A B E G H; exact rP (y_move (kp (H 7 rfl) E q76))
      · intro A B E G H; exact rP (y_move (kp (H 10 rfl) E q72))
      · intro A B E G H d0 d1; exact rP (y_index1 Try.underlying23 Try.inf3 (ed d0 rfl rfl rfl) (ed d1 rfl rfl rfl) (by omega) (lst_get Ty.int r 0 i (by omega)))
      · intro A B E G H d0; exact rP (y_load Try.underlying3 rfl (ed d0 rfl rfl rfl) rfl)
      · intro A B E G H d0; exact rP (y_call #[A.eval (.tmp 55)] Try.func33 rfl rfl (by simp only [List.map_toArray, List.map_cons, List.map_nil]) (rSignOf_fn ((r.getD i 0)) _ _ (cvi (σ := B) (by omega) (ed d0 rfl rfl rfl)) (by omega)))
      · intro A B E G H d0 d1; exact rP (y_scat (ed d0 rfl rfl rfl) (ed d1 rfl rfl rfl) (by omega))
      · intro A B E G H d0 d1 d2 d3 d4 d5 d6 d7 d8; exact rP (y_assign (ed d0 rfl rfl rfl))
      intro a19 s17 D17; have ok18 := D17.ok; have F18 := F14.step0 D17.stp; have q101 := D17.kt q72 rfl; have q102 := D17.kt q73 rfl; have q103 := D17.kt q74 rfl; have q104 := D17.kt q75 rfl; have q105 := D17.kt q76 rfl; have q106 := D17.kt q77 rfl; have q107 := D17.dn 7 rfl rfl; clear D17; refine bn ?_; refine tn ?_
      refine rg a19 s17 [(Ty.nat i), (Ty.nat (i + 1)), (Ty.nat (i + 1))] ok18 ⟨?_, ?_, ?_, trivial⟩ ?_
      · intro A B E G H; exact rP (y_move (kp (H 10 rfl) E q101))
      · intro A B E G H d0; exact rP ((y_add (ed d0 rfl rfl rfl) rfl (w64 (by omega) (by omega))).mono (fun τ _ h => cvi (σ := τ) (by first | omega | exact (Int.natCast_mul _ _).symm) h))
      · intro A B E G H d0 d1 d2; exact rP (y_assign (ed d0 rfl rfl rfl))
      intro a20 s18 D18; have ok19 := D18.ok; have F19 := F18.step0 D18.stp; have q108 := D18.kt q102 rfl; have q109 := D18.kt q103 rfl; have q110 := D18.kt q104 rfl; have q111 := D18.kt q105 rfl; have q112 := D18.kt q106 rfl; have q113 := D18.kt q107 rfl; have q114 := D18.dn 2 rfl rfl; clear D18
      exact tn ⟨M - ((i+1)), by omega, s18, (i+1), rfl, F19, ok19, (cvi (by (first | rfl | omega | (simp_all; done) | (simp_all; omega))) q114), (cvt (by (rw [tm_ss hrr (by omega) c3 c4])) q113), (cvi (by (rw [tm_no c4])) q108), q109, q110, q111, q112, by omega, rfl⟩
    ·
     refine wp_skip ?_
     refine tn ?_; refine wp_seq ?_
     refine rg a13 s11 [(Ty.lst Ty.int raw), (Ty.nat i), (Ty.nat (i + 1)), (Ty.int (rawAt raw ((i + 1)))), (Ty.int (Int.tmod (rawAt raw ((i + 1))) 3)), (Ty.bool (decide ((Int.tmod (rawAt raw ((i + 1))) 3) = (0 : Int))))] ok12 ⟨?_, ?_, ?_, ?_, ?_, ?_, trivial⟩ ?_
     · intro A B E G H; exact rP (y_move (kp (H 0 rfl) E q60))
     · intro A B E G H; exact rP (y_move (kp (H 10 rfl) E q57))
     · intro A B E G H d0; exact rP ((y_add (ed d0 rfl rfl rfl) rfl (w64 (by omega) (by omega))).mono (fun τ _ h => cvi (σ := τ) (by first | omega | exact (Int.natCast_mul _ _).symm) h))
     · intro A B E G H d0 d1; exact rP (y_call #[A.eval (.tmp 41), A.eval (.tmp 43)] Try.func32 rfl rfl (by simp only [List.map_toArray, List.map_cons, List.map_nil]) (raw_fn (raw) ((i + 1)) _ _ _ (ed d0 rfl rfl rfl) (cvi (σ := B) (by omega) (ed d1 rfl rfl rfl)) ))
     · intro A B E G H d0; exact rP (y_remI (n := 3) (ed d0 rfl rfl rfl) rfl (by decide))
     · intro A B E G H d0; exact rP (y_eql (ed d0 rfl rfl rfl) rfl)
     intro a21 s19 D19; have ok20 := D19.ok; have F20 := F12.step0 D19.stp; have q115 := D19.kt q57 rfl; have q116 := D19.kt q58 rfl; have q117 := D19.kt q59 rfl; have q118 := D19.kt q60 rfl; have q119 := D19.kt q61 rfl; have q120 := D19.kt q62 rfl; have q121 := D19.kt q63 rfl; have q122 := D19.dn 5 rfl rfl; clear D19; refine tn ?_
     refine cond_p (p := ((Int.tmod (rawAt raw ((i + 1))) 3) = (0 : Int))) q122 (fun c5 => ?_) (fun c5 => ?_)
     ·
      refine wp_seq ?_
      refine rg a21 s19 [(Ty.nat (tmF raw i)), (Ty.nat ((tmF raw i) + 1)), (Ty.nat ((tmF raw i) + 1))] ok20 ⟨?_, ?_, ?_, trivial⟩ ?_
      · intro A B E G H; exact rP (y_move (kp (H 9 rfl) E q117))
      · intro A B E G H d0; exact rP ((y_add (ed d0 rfl rfl rfl) rfl (w64 (by omega) (by omega))).mono (fun τ _ h => cvi (σ := τ) (by first | omega | exact (Int.natCast_mul _ _).symm) h))
      · intro A B E G H d0 d1 d2; exact rP (y_assign (ed d0 rfl rfl rfl))
      intro a22 s20 D20; have ok21 := D20.ok; have F21 := F20.step0 D20.stp; have q123 := D20.kt q115 rfl; have q124 := D20.kt q116 rfl; have q125 := D20.kt q118 rfl; have q126 := D20.kt q119 rfl; have q127 := D20.kt q120 rfl; have q128 := D20.kt q121 rfl; have q129 := D20.dn 2 rfl rfl; clear D20; refine tn ?_
      refine rg a22 s20 [(Ty.val (Value.string (bsL (tmB raw r ST i)))), (Ty.val (Value.string ((bsL (tmB raw r ST i)) ++ (ByteArray.mk #[63])))), (Ty.val (Value.string ((bsL (tmB raw r ST i)) ++ (ByteArray.mk #[63]))))] ok21 ⟨?_, ?_, ?_, trivial⟩ ?_
      · intro A B E G H; exact rP (y_move (kp (H 8 rfl) E q124))
      · intro A B E G H d0; exact rP (y_scat (ed d0 rfl rfl rfl) rfl (by omega))
      · intro A B E G H d0 d1 d2; exact rP (y_assign (ed d0 rfl rfl rfl))
      intro a23 s21 D21; have ok22 := D21.ok; have F22 := F21.step0 D21.stp; have q130 := D21.kt q123 rfl; have q131 := D21.kt q125 rfl; have q132 := D21.kt q126 rfl; have q133 := D21.kt q127 rfl; have q134 := D21.kt q128 rfl; have q135 := D21.kt q129 rfl; have q136 := D21.dn 2 rfl rfl; clear D21; refine bn ?_; refine tn ?_
      refine rg a23 s21 [(Ty.nat i), (Ty.nat (i + 1)), (Ty.nat (i + 1))] ok22 ⟨?_, ?_, ?_, trivial⟩ ?_
      · intro A B E G H; exact rP (y_move (kp (H 10 rfl) E q130))
      · intro A B E G H d0; exact rP ((y_add (ed d0 rfl rfl rfl) rfl (w64 (by omega) (by omega))).mono (fun τ _ h => cvi (σ := τ) (by first | omega | exact (Int.natCast_mul _ _).symm) h))
      · intro A B E G H d0 d1 d2; exact rP (y_assign (ed d0 rfl rfl rfl))
      intro a24 s22 D22; have ok23 := D22.ok; have F23 := F22.step0 D22.stp; have q137 := D22.kt q131 rfl; have q138 := D22.kt q132 rfl; have q139 := D22.kt q133 rfl; have q140 := D22.kt q134 rfl; have q141 := D22.kt q135 rfl; have q142 := D22.kt q136 rfl; have q143 := D22.dn 2 rfl rfl; clear D22
      exact tn ⟨M - ((i+1)), by omega, s22, (i+1), rfl, F23, ok23, (cvi (by (first | rfl | omega | (simp_all; done) | (simp_all; omega))) q143), (cvt (by (rw [tm_nq c3 c5])) q142), (cvi (by (rw [tm_yes c5])) q141), q137, q138, q139, q140, by omega, rfl⟩
     ·
      have hz3_ : (ByteArray.extract SIGNS (r.getD i 0).toNat (r.getD i 0 + 1).toNat).size = 1 := (by rw [tmC_s hrr (by omega) c5]; rfl)
      refine rg a21 s19 [(Ty.val (Value.string (bsL (tmB raw r ST i)))), (Ty.lst Ty.int r), (Ty.nat i), (Ty.ref [(Ty.int (r.getD i 0))]), (Ty.int (r.getD i 0)), (Ty.val (Value.string (ByteArray.extract SIGNS (((r.getD i 0))).toNat (((r.getD i 0)) + 1).toNat))), (Ty.val (Value.string ((bsL (tmB raw r ST i)) ++ (ByteArray.extract SIGNS (((r.getD i 0))).toNat (((r.getD i 0)) + 1).toNat)))), (Ty.val (Value.string ((bsL (tmB raw r ST i)) ++ (ByteArray.extract SIGNS (((r.getD i 0))).toNat (((r.getD i 0)) + 1).toNat))))] ok20 ⟨?_, ?_, ?_, ?_, ?_, ?_, ?_, ?_, trivial⟩ ?_
      · intro A B E G H; exact rP (y_move (kp (H 8 rfl) E q116))
      · intro A B E G H; exact rP (y_move (kp (H 7 rfl) E q120))
      · intro A B E G H; exact rP (y_move (kp (H 10 rfl) E q115))
      · intro A B E G H d0 d1; exact rP (y_index1 Try.underlying23 Try.inf3 (ed d0 rfl rfl rfl) (ed d1 rfl rfl rfl) (by omega) (lst_get Ty.int r 0 i (by omega)))
      · intro A B E G H d0; exact rP (y_load Try.underlying3 rfl (ed d0 rfl rfl rfl) rfl)
      · intro A B E G H d0; exact rP (y_call #[A.eval (.tmp 55)] Try.func33 rfl rfl (by simp only [List.map_toArray, List.map_cons, List.map_nil]) (rSignOf_fn ((r.getD i 0)) _ _ (cvi (σ := B) (by omega) (ed d0 rfl rfl rfl)) (by omega)))
      · intro A B E G H d0 d1; exact rP (y_scat (ed d0 rfl rfl rfl) (ed d1 rfl rfl rfl) (by omega))
      · intro A B E G H d0 d1 d2 d3 d4 d5 d6 d7 d8; exact rP (y_assign (ed d0 rfl rfl rfl))
      intro a25 s23 D23; have ok24 := D23.ok; have F24 := F20.step0 D23.stp; have q144 := D23.kt q115 rfl; have q145 := D23.kt q117 rfl; have q146 := D23.kt q118 rfl; have q147 := D23.kt q119 rfl; have q148 := D23.kt q120 rfl; have q149 := D23.kt q121 rfl; have q150 := D23.dn 7 rfl rfl; clear D23; refine bn ?_; refine tn ?_
      refine rg a25 s23 [(Ty.nat i), (Ty.nat (i + 1)), (Ty.nat (i + 1))] ok24 ⟨?_, ?_, ?_, trivial⟩ ?_
      · intro A B E G H; exact rP (y_move (kp (H 10 rfl) E q144))
      · intro A B E G H d0; exact rP ((y_add (ed d0 rfl rfl rfl) rfl (w64 (by omega) (by omega))).mono (fun τ _ h => cvi (σ := τ) (by first | omega | exact (Int.natCast_mul _ _).symm) h))
      · intro A B E G H d0 d1 d2; exact rP (y_assign (ed d0 rfl rfl rfl))
      intro a26 s24 D24; have ok25 := D24.ok; have F25 := F24.step0 D24.stp; have q151 := D24.kt q145 rfl; have q152 := D24.kt q146 rfl; have q153 := D24.kt q147 rfl; have q154 := D24.kt q148 rfl; have q155 := D24.kt q149 rfl; have q156 := D24.kt q150 rfl; have q157 := D24.dn 2 rfl rfl; clear D24
      exact tn ⟨M - ((i+1)), by omega, s24, (i+1), rfl, F25, ok25, (cvi (by (first | rfl | omega | (simp_all; done) | (simp_all; omega))) q157), (cvt (by (rw [tm_ns hrr (by omega) c3 c5])) q156), (cvi (by (rw [tm_no c5])) q151), q152, q153, q154, q155, by omega, rfl⟩
   ·
    have hie : i = M := (by omega)
    refine wp_exit ?_; refine tx ?_; refine tx ?_; refine bx ?_; refine tn ?_; refine wp_seq ?_
    refine rg a12 s10 [(Ty.val (Value.slice none 0 0))] ok11 ⟨?_, trivial⟩ ?_
    · intro A B E G H; exact rP (y_assign rfl)
    intro a27 s25 D25; have ok26 := D25.ok; have F26 := F11.step0 D25.stp; have q158 := D25.kt q50 rfl; have q159 := D25.kt q51 rfl; have q160 := D25.kt q53 rfl; have q161 := D25.dn 0 rfl rfl; clear D25; refine tn ?_; refine wp_seq ?_; refine wp_seq ?_
    refine rg a27 s25 [(Ty.int (0 : Int))] ok26 ⟨?_, trivial⟩ ?_
    · intro A B E G H; exact rP (y_assign rfl)
    intro a28 s26 D26; have ok27 := D26.ok; have F27 := F26.step0 D26.stp; have q162 := D26.kt q158 rfl; have q163 := D26.kt q159 rfl; have q164 := D26.kt q160 rfl; have q165 := D26.kt q161 rfl; have q166 := D26.dn 0 rfl rfl; clear D26; refine tn ?_
    refine wp_block ?_
    have o1 : Own s26 5 23 1 (Value.slice none 0 0) 0 (List.map Ty.ints ([] : List (List Int))) := Own.nil _ _ _ _
    refine loop (fun n3 a29 w3 => ∃ (t3 : GW) (k : Nat) (x11_1 : Value), t3.w = w3 ∧ FromL [] s0 t3 ∧ Ok 118 a29 ∧ At (Ty.nat k) t3 a29 (.tmp 12) ∧ At (Ty.val x11_1) t3 a29 (.tmp 11) ∧ At (Ty.val (Value.string (bsL (tmB raw r ST i)))) t3 a29 (.tmp 8) ∧ At (Ty.nat (tmF raw i)) t3 a29 (.tmp 9) ∧ At (Ty.nat M) t3 a29 (.tmp 1) ∧ Own t3 5 23 1 x11_1 (List.length (tmA M k)) (List.map Ty.ints (tmA M k)) ∧ (k ≤ (fct M)) ∧ n3 = (fct M) - k) ((fct M) - (0)) ?_ ?_
    ·
     exact ⟨s26, 0, (Value.slice none 0 0), rfl, F27, ok27, (cvi (by (first | rfl | omega | (simp_all; done) | (simp_all; omega))) q166), q165, q162, q163, q164, (cvo (by (rfl)) (by (rfl)) o1), by omega, rfl⟩
    ·
     rintro n4 a30 w4 ⟨t4, k, x11_1, rfl, F28, ok28, q167, q168, q169, q170, q171, o2, hk, rfl⟩
     have hal := tmA_len M k
     refine wp_seq ?_; refine wp_seq ?_
     refine reg (a := a30) (σ := t4) rfl (fun i_ => List.getD [(Ty.pr (Ty.nat k)), (Ty.pr (Ty.nat M)), (Ty.pr (Ty.nat (fct (M)))), (Ty.pr (Ty.bool (decide (((k : Nat) : Int) < (((fct (M)) : Nat) : Int)))))] i_ Pr.any) ok28 rfl ⟨?_, ?_, ?_, ?_, trivial⟩ ?_
     · intro A B E G H; exact rP (y_move (kp (H 12 rfl) E q167))
     · intro A B E G H; exact rP (y_move (kp (H 1 rfl) E q171))
     · intro A B E G H d0; exact rP (y_call #[A.eval (.tmp 59)] Try.func34 rfl rfl (by simp only [List.map_toArray, List.map_cons, List.map_nil]) (rFact_fn ((M)) (M) _ _ (cvi (σ := B) (by omega) (ed d0 rfl rfl rfl)) (by omega) (by omega)))
     · intro A B E G H d0 d1; exact rP (y_lss (ed d0 rfl rfl rfl) (ed d1 rfl rfl rfl))
     intro a31 s27 D27; have ok29 := D27.ok; have F29 := F28.step0 D27.stp; have q172 := D27.kt q167 rfl; have q173 := D27.kt q168 rfl; have q174 := D27.kt q169 rfl; have q175 := D27.kt q170 rfl; have q176 := D27.kt q171 rfl; have o3 := Own.k0 o2 D27.stp; have q177 := D27.dn 3 rfl rfl; clear D27; refine tn ?_
     refine cond_p (p := (((k : Nat) : Int) < (((fct (M)) : Nat) : Int))) q177 (fun c6 => ?_) (fun c6 => ?_)
     ·
      refine wp_skip ?_
      refine tn ?_; refine wp_seq ?_
      refine wp_block ?_
      refine reg2 (a := a31) (σ := s27) rfl 5 (fun i_ => List.getD [(Ty.pr (Ty.val x11_1)), (Ty.pr (Ty.nat M)), (Ty.pr (Ty.nat k)), (Ty.pr (Ty.lst Ty.int (atL (M) k))), (Ty.pr (Ty.sl 1 1 [(Ty.lst Ty.int (atL (M) k))]))] i_ Pr.any) ok29 rfl (by decide) rfl ⟨?_, ?_, ?_, ?_, ?_, trivial⟩ ?_
      · intro A B E G H; exact rP (y_move (kp (H 11 rfl) E q173))
      · intro A B E G H; exact rP (y_move (kp (H 1 rfl) E q176))
      · intro A B E G H; exact rP (y_move (kp (H 12 rfl) E q172))
      · intro A B E G H d0 d1; exact rP (y_call #[A.eval (.tmp 65), A.eval (.tmp 66)] Try.func35 rfl rfl (by simp only [List.map_toArray, List.map_cons, List.map_nil]) (rAt_fn (M) (k) _ _ _ (cvi (σ := B) (by first | omega | assumption) (ed d0 rfl rfl rfl)) (ed d1 rfl rfl rfl) (by first | omega | assumption) (by first | omega | assumption)))
      · intro A B E G H d0; exact rP (y_build1o Try.underlying29 Try.inf23 rfl (one_sl) (ed d0 rfl rfl rfl))
      intro a32 s28 D28; have ok30 := D28.ok; have F30 := F29.step0 D28.stp; have q178 := D28.kt q172 rfl; have q179 := D28.kt q173 rfl; have q180 := D28.kt q174 rfl; have q181 := D28.kt q175 rfl; have q182 := D28.kt q176 rfl; have o4 := Own.k0 o3 D28.stp
      have q183 : At (Ty.val x11_1) s28 a32 (.tmp 64) := D28.done 0 (by decide)
      have q184 := D28.dn 4 (by decide) rfl rfl
      have b2 := sl_le q184
      clear D28
      refine tailL (L := [5]) (R := (fun v τ => Own τ 5 23 1 v ((List.length (tmA M k)) + 1) ((List.map Ty.ints (tmA M k)) ++ [(Ty.lst Ty.int (atL (M) k))]))) rfl rfl (by decide) ok30 (YldM.toL (m_append Try.underlying29 Try.inf23 (by decide) rfl (by decide) (al (R := (Pr.own 5 23 1 (List.length (tmA M k)) (List.map Ty.ints (tmA M k)))) q183 o4) q184 (by intro U hU; simp at hU; subst hU; exact one_sl) (by omega) (by omega))) (fun a33 s29 hs1 ok31 r1 sm1 => ?_)
      have F31 := F30.stepL hs1 (by decide); have q185 := kpL hs1 (by decide) (sm1 12 (by decide)) q178; have q186 := kpL hs1 (by decide) (sm1 11 (by decide)) q179; have q187 := kpL hs1 (by decide) (sm1 8 (by decide)) q180; have q188 := kpL hs1 (by decide) (sm1 9 (by decide)) q181; have q189 := kpL hs1 (by decide) (sm1 1 (by decide)) q182
      obtain ⟨x1, hx1⟩ : ∃ x, a33.eval (.tmp 69) = x := ⟨_, rfl⟩
      have q190 : At (Ty.val x1) s29 a33 (.tmp 69) := hx1
      have o5 : Own s29 5 23 1 x1 (List.length ((tmA M k) ++ [(atL (M) k)])) (List.map Ty.ints ((tmA M k) ++ [(atL (M) k)])) := al2 (R := (Pr.own 5 23 1 (List.length ((tmA M k) ++ [(atL (M) k)])) (List.map Ty.ints ((tmA M k) ++ [(atL (M) k)])))) hx1 (cvo (by simp) (by first | (rw [List.map_append]; rfl) | simp) r1)
      clear r1
      refine tailL (L := []) (R := (fun v τ => Pr.has (Ty.pr (Ty.val x1)) τ v)) rfl rfl (by decide) ok31 (Yld.toL (y_assign q190)) (fun a34 s30 hs2 ok32 r2 sm2 => ?_)
      have F32 := F31.stepL hs2 (by decide); have q191 := kpL hs2 (by decide) (sm2 12 (by decide)) q185; have q192 := kpL hs2 (by decide) (sm2 8 (by decide)) q187; have q193 := kpL hs2 (by decide) (sm2 9 (by decide)) q188; have q194 := kpL hs2 (by decide) (sm2 1 (by decide)) q189; have o6 := Own.keepL o5 hs2 (by decide) (by decide)
      have q195 : At (Ty.val x1) s30 a34 (.tmp 11) := r2
      clear r2; refine wpList_nil ?_; refine bn ?_; refine tn ?_
      refine rg a34 s30 [(Ty.nat k), (Ty.nat (k + 1)), (Ty.nat (k + 1))] ok32 ⟨?_, ?_, ?_, trivial⟩ ?_
      · intro A B E G H; exact rP (y_move (kp (H 12 rfl) E q191))
      · intro A B E G H d0; exact rP ((y_add (ed d0 rfl rfl rfl) rfl (w64 (by omega) (by omega))).mono (fun τ _ h => cvi (σ := τ) (by first | omega | exact (Int.natCast_mul _ _).symm) h))
      · intro A B E G H d0 d1 d2; exact rP (y_assign (ed d0 rfl rfl rfl))
      intro a35 s31 D29; have ok33 := D29.ok; have F33 := F32.step0 D29.stp; have q196 := D29.kt q192 rfl; have q197 := D29.kt q193 rfl; have q198 := D29.kt q194 rfl; have q199 := D29.kt q195 rfl; have o7 := Own.k0 o6 D29.stp; have q200 := D29.dn 2 rfl rfl; clear D29
      exact tn ⟨(fct M) - ((k+1)), by omega, s31, (k+1), x1, rfl, F33, ok33, (cvi (by (first | rfl | omega | (simp_all; done) | (simp_all; omega))) q200), q199, q196, q197, q198, (cvo (by (rw [tmA_succ])) (by (rw [tmA_succ])) o7), by omega, rfl⟩
     ·
      have hkf : k = fct M := (by omega); have htm := tmF_le (raw := raw) M; have hts_ : ∀ t ∈ [bsL (tmB raw r ST i), ByteArray.mk #[42]], t.size ≤ 17592186044416 := (fun t ht => by (rcases List.mem_cons.1 ht with e_ | e_; (rw [e_]; have h_ := tm_size (raw := raw) (star := ST) hrr hrl (show i ≤ M by omega); omega); (rw [List.mem_singleton.1 e_]; decide)))
      refine wp_exit ?_; refine tx ?_; refine tx ?_; refine bx ?_; refine tn ?_; refine wp_seq ?_
      obtain ⟨t5, e1, h1, q201⟩ := Own.seal o3 (by decide)
      rw [← e1]
      have F34 := F29.step h1 (by decide); have q202 := Ty.up (Ty.nat k) (h1.le (by decide)) q172
      have q203 : At (Ty.lst Ty.ints (tmA M k)) t5 a31 (.tmp 11) := by have e : a31.eval (.tmp 11) = x11_1 := q173; show Ty.has _ _ _; rw [e]; exact q201
      have q204 := Ty.up (Ty.val (Value.string (bsL (tmB raw r ST i)))) (h1.le (by decide)) q174; have q205 := Ty.up (Ty.nat (tmF raw i)) (h1.le (by decide)) q175; have q206 := Ty.up (Ty.nat M) (h1.le (by decide)) q176; have q207 := Ty.up (Ty.bool (decide (((k : Nat) : Int) < (((fct (M)) : Nat) : Int)))) (h1.le (by decide)) q177
      refine reg (a := a31) (σ := t5) rfl (fun i_ => List.getD [(Ty.pr (Ty.nat M)), (Ty.pr (Ty.val (Value.string (bsL (tmB raw r ST i))))), (Ty.pr (Ty.sl 1 2 [(Ty.val (Value.string (bsL (tmB raw r ST i)))), (Ty.val (Value.string (ByteArray.mk #[42])))])), (Ty.pr (Ty.lst Ty.ints (tmA M k))), (Ty.pr (Ty.tup2 (Ty.lst Ty.int [((fct (tmF raw M) : Nat) : Int), ((fct M : Nat) : Int)]) (Ty.int (0 : Int)))), (Ty.pr (Ty.tup2 (Ty.lst Ty.int [((fct (tmF raw M) : Nat) : Int), ((fct M : Nat) : Int)]) (Ty.int (0 : Int)))), (Ty.pr (Ty.lst Ty.int [((fct (tmF raw M) : Nat) : Int), ((fct M : Nat) : Int)])), (Ty.pr (Ty.int (0 : Int))), (Ty.pr (Ty.lst Ty.int [((fct (tmF raw M) : Nat) : Int), ((fct M : Nat) : Int)])), (Ty.pr (Ty.int (0 : Int)))] i_ Pr.any) ok29 rfl ⟨?_, ?_, ?_, ?_, ?_, ?_, ?_, ?_, ?_, ?_, trivial⟩ ?_
      · intro A B E G H; exact rP (y_move (kp (H 1 rfl) E q206))
      · intro A B E G H; exact rP (y_move (kp (H 8 rfl) E q204))
      · intro A B E G H d0; exact rP (y_build2 Try.underlying65 Try.inf9 rfl (one_val rfl) (one_val rfl) (ed d0 rfl rfl rfl) rfl)
      · intro A B E G H; exact rP (y_move (kp (H 11 rfl) E q203))
      · intro A B E G H d0 d1 d2; exact rP ((y_call #[A.eval (.tmp 71), A.eval (.tmp 73), A.eval (.tmp 74)] Try.func36 rfl rfl (by simp only [List.map_toArray, List.map_cons, List.map_nil]) (mucount_fn (((M : Nat) : Int)) ([(bsL (tmB raw r ST i)), (ByteArray.mk #[42])]) ((tmA M k)) _ _ _ _ (cvi (σ := B) (by first | omega | assumption) (ed d0 rfl rfl rfl)) (ed d1 rfl rfl rfl) (ed d2 rfl rfl rfl) (by first | omega | assumption) (by first | omega | assumption))).mono (fun τ _ h => cvt (σ := τ) (T := (Ty.tup2 (Ty.lst Ty.int (if musMay (((M : Nat) : Int)) ([(bsL (tmB raw r ST i)), (ByteArray.mk #[42])]) ((tmA M k)) = 0 then musL ([(bsL (tmB raw r ST i)), (ByteArray.mk #[42])]) ((tmA M k)) else [])) (Ty.int (musMay (((M : Nat) : Int)) ([(bsL (tmB raw r ST i)), (ByteArray.mk #[42])]) ((tmA M k)))))) (U := (Ty.tup2 (Ty.lst Ty.int [((fct (tmF raw M) : Nat) : Int), ((fct M : Nat) : Int)]) (Ty.int (0 : Int)))) (by rw [hie, hkf, if_pos hu1, hu2, hu1]) h))
      · intro A B E G H d0; exact rP (y_move (ed d0 rfl rfl rfl))
      · intro A B E G H d0; exact rP (y_ext2_0 (ed d0 rfl rfl rfl))
      · intro A B E G H d0 d1; exact rP (y_ext2_1 (ed d0 rfl rfl rfl))
      · intro A B E G H d0 d1 d2 d3 d4 d5 d6 d7 d8 d9; exact rP (y_assign (ed d0 rfl rfl rfl))
      · intro A B E G H d0 d1 d2 d3 d4 d5 d6 d7 d8 d9 d10; exact rP (y_assign (ed d0 rfl rfl rfl))
      intro a36 s32 D30; have ok34 := D30.ok; have F35 := F34.step0 D30.stp; have q208 := D30.kt q203 rfl; have q209 := D30.kt q204 rfl; have q210 := D30.kt q205 rfl; have q211 := D30.kt q206 rfl; have q212 := D30.dn 8 rfl rfl; have q213 := D30.dn 9 rfl rfl; clear D30; refine tn ?_; refine wp_seq ?_
      refine rg a36 s32 [(Ty.nat M), (Ty.val (Value.string (bsL (tmB raw r ST i)))), (Ty.tup2 (Ty.nat (fct (tmF raw M))) (Ty.int (0 : Int))), (Ty.tup2 (Ty.nat (fct (tmF raw M))) (Ty.int (0 : Int))), (Ty.nat (fct (tmF raw M))), (Ty.int (0 : Int)), (Ty.nat (fct (tmF raw M))), (Ty.int (0 : Int))] ok34 ⟨?_, ?_, ?_, ?_, ?_, ?_, ?_, ?_, trivial⟩ ?_
      · intro A B E G H; exact rP (y_move (kp (H 1 rfl) E q211))
      · intro A B E G H; exact rP (y_move (kp (H 8 rfl) E q209))
      · intro A B E G H d0 d1; exact rP ((y_call #[A.eval (.tmp 79), A.eval (.tmp 80)] Try.func37 rfl rfl (by simp only [List.map_toArray, List.map_cons, List.map_nil]) (muall_fn (((M : Nat) : Int)) ((bsL (tmB raw r ST i))) _ _ _ (cvi (σ := B) (by omega) (ed d0 rfl rfl rfl)) (ed d1 rfl rfl rfl) (by omega) (by omega))).mono (fun τ _ h => cvt (σ := τ) (T := (Ty.tup2 (Ty.nat (if patMay (((M : Nat) : Int)) (runsL ((bsL (tmB raw r ST i)))) = 0 then fct (((((M : Nat) : Int))).toNat - (fixL (List.map bellQ (frR (runsL ((bsL (tmB raw r ST i)))))) + fixL (List.map bellQ (bkR (runsL ((bsL (tmB raw r ST i)))))))) else 0)) (Ty.int (patMay (((M : Nat) : Int)) (runsL ((bsL (tmB raw r ST i)))))))) (U := (Ty.tup2 (Ty.nat (fct (tmF raw M))) (Ty.int (0 : Int)))) (by rw [hie, hp1, if_pos hp2, hp2, Int.toNat_natCast, hp3]) h))
      · intro A B E G H d0; exact rP (y_move (ed d0 rfl rfl rfl))
      · intro A B E G H d0; exact rP (y_ext2_0 (ed d0 rfl rfl rfl))
      · intro A B E G H d0 d1; exact rP (y_ext2_1 (ed d0 rfl rfl rfl))
      · intro A B E G H d0 d1 d2 d3 d4 d5 d6 d7; exact rP (y_assign (ed d0 rfl rfl rfl))
      · intro A B E G H d0 d1 d2 d3 d4 d5 d6 d7 d8; exact rP (y_assign (ed d0 rfl rfl rfl))
      intro a37 s33 D31; have ok35 := D31.ok; have F36 := F35.step0 D31.stp; have q214 := D31.kt q208 rfl; have q215 := D31.kt q210 rfl; have q216 := D31.kt q212 rfl; have q217 := D31.kt q213 rfl; have q218 := D31.dn 6 rfl rfl; have q219 := D31.dn 7 rfl rfl; clear D31; refine tn ?_; refine wp_seq ?_
      refine rg a37 s33 [(Ty.int (0 : Int)), (Ty.bool true), (Ty.bool true), (Ty.grd (true = true) (Ty.int (0 : Int))), (Ty.grd (true = true) (Ty.bool true)), (Ty.bool (true && true)), (Ty.bool (true && true)), (Ty.grd ((true && true) = true) (Ty.lst Ty.int [((fct (tmF raw M) : Nat) : Int), ((fct M : Nat) : Int)])), (Ty.grd ((true && true) = true) (Ty.nat (List.length [((fct (tmF raw M) : Nat) : Int), ((fct M : Nat) : Int)]))), (Ty.grd ((true && true) = true) (Ty.bool (decide ((((List.length [((fct (tmF raw M) : Nat) : Int), ((fct M : Nat) : Int)]) : Nat) : Int) = (2 : Int))))), (Ty.bool ((true && true) && (decide ((((List.length [((fct (tmF raw M) : Nat) : Int), ((fct M : Nat) : Int)]) : Nat) : Int) = (2 : Int))))), (Ty.bool ((true && true) && (decide ((((List.length [((fct (tmF raw M) : Nat) : Int), ((fct M : Nat) : Int)]) : Nat) : Int) = (2 : Int))))), (Ty.grd (((true && true) && (decide ((((List.length [((fct (tmF raw M) : Nat) : Int), ((fct M : Nat) : Int)]) : Nat) : Int) = (2 : Int)))) = true) (Ty.lst Ty.int [((fct (tmF raw M) : Nat) : Int), ((fct M : Nat) : Int)])), (Ty.grd (((true && true) && (decide ((((List.length [((fct (tmF raw M) : Nat) : Int), ((fct M : Nat) : Int)]) : Nat) : Int) = (2 : Int)))) = true) (Ty.ref [(Ty.int ([((fct (tmF raw M) : Nat) : Int), ((fct M : Nat) : Int)].getD ((0 : Int)).toNat 0))])), (Ty.grd (((true && true) && (decide ((((List.length [((fct (tmF raw M) : Nat) : Int), ((fct M : Nat) : Int)]) : Nat) : Int) = (2 : Int)))) = true) (Ty.int ([((fct (tmF raw M) : Nat) : Int), ((fct M : Nat) : Int)].getD ((0 : Int)).toNat 0))), (Ty.grd (((true && true) && (decide ((((List.length [((fct (tmF raw M) : Nat) : Int), ((fct M : Nat) : Int)]) : Nat) : Int) = (2 : Int)))) = true) (Ty.nat (tmF raw i))), (Ty.grd (((true && true) && (decide ((((List.length [((fct (tmF raw M) : Nat) : Int), ((fct M : Nat) : Int)]) : Nat) : Int) = (2 : Int)))) = true) (Ty.nat (fct ((tmF raw i))))), (Ty.grd (((true && true) && (decide ((((List.length [((fct (tmF raw M) : Nat) : Int), ((fct M : Nat) : Int)]) : Nat) : Int) = (2 : Int)))) = true) (Ty.bool (decide (([((fct (tmF raw M) : Nat) : Int), ((fct M : Nat) : Int)].getD ((0 : Int)).toNat 0) = (((fct ((tmF raw i))) : Nat) : Int))))), (Ty.bool (((true && true) && (decide ((((List.length [((fct (tmF raw M) : Nat) : Int), ((fct M : Nat) : Int)]) : Nat) : Int) = (2 : Int)))) && (decide (([((fct (tmF raw M) : Nat) : Int), ((fct M : Nat) : Int)].getD ((0 : Int)).toNat 0) = (((fct ((tmF raw i))) : Nat) : Int))))), (Ty.bool (((true && true) && (decide ((((List.length [((fct (tmF raw M) : Nat) : Int), ((fct M : Nat) : Int)]) : Nat) : Int) = (2 : Int)))) && (decide (([((fct (tmF raw M) : Nat) : Int), ((fct M : Nat) : Int)].getD ((0 : Int)).toNat 0) = (((fct ((tmF raw i))) : Nat) : Int))))), (Ty.grd ((((true && true) && (decide ((((List.length [((fct (tmF raw M) : Nat) : Int), ((fct M : Nat) : Int)]) : Nat) : Int) = (2 : Int)))) && (decide (([((fct (tmF raw M) : Nat) : Int), ((fct M : Nat) : Int)].getD ((0 : Int)).toNat 0) = (((fct ((tmF raw i))) : Nat) : Int)))) = true) (Ty.nat (fct (tmF raw M)))), (Ty.grd ((((true && true) && (decide ((((List.length [((fct (tmF raw M) : Nat) : Int), ((fct M : Nat) : Int)]) : Nat) : Int) = (2 : Int)))) && (decide (([((fct (tmF raw M) : Nat) : Int), ((fct M : Nat) : Int)].getD ((0 : Int)).toNat 0) = (((fct ((tmF raw i))) : Nat) : Int)))) = true) (Ty.lst Ty.int [((fct (tmF raw M) : Nat) : Int), ((fct M : Nat) : Int)])), (Ty.grd ((((true && true) && (decide ((((List.length [((fct (tmF raw M) : Nat) : Int), ((fct M : Nat) : Int)]) : Nat) : Int) = (2 : Int)))) && (decide (([((fct (tmF raw M) : Nat) : Int), ((fct M : Nat) : Int)].getD ((0 : Int)).toNat 0) = (((fct ((tmF raw i))) : Nat) : Int)))) = true) (Ty.ref [(Ty.int ([((fct (tmF raw M) : Nat) : Int), ((fct M : Nat) : Int)].getD ((0 : Int)).toNat 0))])), (Ty.grd ((((true && true) && (decide ((((List.length [((fct (tmF raw M) : Nat) : Int), ((fct M : Nat) : Int)]) : Nat) : Int) = (2 : Int)))) && (decide (([((fct (tmF raw M) : Nat) : Int), ((fct M : Nat) : Int)].getD ((0 : Int)).toNat 0) = (((fct ((tmF raw i))) : Nat) : Int)))) = true) (Ty.int ([((fct (tmF raw M) : Nat) : Int), ((fct M : Nat) : Int)].getD ((0 : Int)).toNat 0))), (Ty.grd ((((true && true) && (decide ((((List.length [((fct (tmF raw M) : Nat) : Int), ((fct M : Nat) : Int)]) : Nat) : Int) = (2 : Int)))) && (decide (([((fct (tmF raw M) : Nat) : Int), ((fct M : Nat) : Int)].getD ((0 : Int)).toNat 0) = (((fct ((tmF raw i))) : Nat) : Int)))) = true) (Ty.bool (decide ((((fct (tmF raw M)) : Nat) : Int) = ([((fct (tmF raw M) : Nat) : Int), ((fct M : Nat) : Int)].getD ((0 : Int)).toNat 0))))), (Ty.bool ((((true && true) && (decide ((((List.length [((fct (tmF raw M) : Nat) : Int), ((fct M : Nat) : Int)]) : Nat) : Int) = (2 : Int)))) && (decide (([((fct (tmF raw M) : Nat) : Int), ((fct M : Nat) : Int)].getD ((0 : Int)).toNat 0) = (((fct ((tmF raw i))) : Nat) : Int)))) && (decide ((((fct (tmF raw M)) : Nat) : Int) = ([((fct (tmF raw M) : Nat) : Int), ((fct M : Nat) : Int)].getD ((0 : Int)).toNat 0))))), (Ty.bool ((((true && true) && (decide ((((List.length [((fct (tmF raw M) : Nat) : Int), ((fct M : Nat) : Int)]) : Nat) : Int) = (2 : Int)))) && (decide (([((fct (tmF raw M) : Nat) : Int), ((fct M : Nat) : Int)].getD ((0 : Int)).toNat 0) = (((fct ((tmF raw i))) : Nat) : Int)))) && (decide ((((fct (tmF raw M)) : Nat) : Int) = ([((fct (tmF raw M) : Nat) : Int), ((fct M : Nat) : Int)].getD ((0 : Int)).toNat 0))))), (Ty.grd (((((true && true) && (decide ((((List.length [((fct (tmF raw M) : Nat) : Int), ((fct M : Nat) : Int)]) : Nat) : Int) = (2 : Int)))) && (decide (([((fct (tmF raw M) : Nat) : Int), ((fct M : Nat) : Int)].getD ((0 : Int)).toNat 0) = (((fct ((tmF raw i))) : Nat) : Int)))) && (decide ((((fct (tmF raw M)) : Nat) : Int) = ([((fct (tmF raw M) : Nat) : Int), ((fct M : Nat) : Int)].getD ((0 : Int)).toNat 0)))) = true) (Ty.lst Ty.int [((fct (tmF raw M) : Nat) : Int), ((fct M : Nat) : Int)])), (Ty.grd (((((true && true) && (decide ((((List.length [((fct (tmF raw M) : Nat) : Int), ((fct M : Nat) : Int)]) : Nat) : Int) = (2 : Int)))) && (decide (([((fct (tmF raw M) : Nat) : Int), ((fct M : Nat) : Int)].getD ((0 : Int)).toNat 0) = (((fct ((tmF raw i))) : Nat) : Int)))) && (decide ((((fct (tmF raw M)) : Nat) : Int) = ([((fct (tmF raw M) : Nat) : Int), ((fct M : Nat) : Int)].getD ((0 : Int)).toNat 0)))) = true) (Ty.ref [(Ty.int ([((fct (tmF raw M) : Nat) : Int), ((fct M : Nat) : Int)].getD ((1 : Int)).toNat 0))])), (Ty.grd (((((true && true) && (decide ((((List.length [((fct (tmF raw M) : Nat) : Int), ((fct M : Nat) : Int)]) : Nat) : Int) = (2 : Int)))) && (decide (([((fct (tmF raw M) : Nat) : Int), ((fct M : Nat) : Int)].getD ((0 : Int)).toNat 0) = (((fct ((tmF raw i))) : Nat) : Int)))) && (decide ((((fct (tmF raw M)) : Nat) : Int) = ([((fct (tmF raw M) : Nat) : Int), ((fct M : Nat) : Int)].getD ((0 : Int)).toNat 0)))) = true) (Ty.int ([((fct (tmF raw M) : Nat) : Int), ((fct M : Nat) : Int)].getD ((1 : Int)).toNat 0))), (Ty.grd (((((true && true) && (decide ((((List.length [((fct (tmF raw M) : Nat) : Int), ((fct M : Nat) : Int)]) : Nat) : Int) = (2 : Int)))) && (decide (([((fct (tmF raw M) : Nat) : Int), ((fct M : Nat) : Int)].getD ((0 : Int)).toNat 0) = (((fct ((tmF raw i))) : Nat) : Int)))) && (decide ((((fct (tmF raw M)) : Nat) : Int) = ([((fct (tmF raw M) : Nat) : Int), ((fct M : Nat) : Int)].getD ((0 : Int)).toNat 0)))) = true) (Ty.lst Ty.ints (tmA M k))), (Ty.grd (((((true && true) && (decide ((((List.length [((fct (tmF raw M) : Nat) : Int), ((fct M : Nat) : Int)]) : Nat) : Int) = (2 : Int)))) && (decide (([((fct (tmF raw M) : Nat) : Int), ((fct M : Nat) : Int)].getD ((0 : Int)).toNat 0) = (((fct ((tmF raw i))) : Nat) : Int)))) && (decide ((((fct (tmF raw M)) : Nat) : Int) = ([((fct (tmF raw M) : Nat) : Int), ((fct M : Nat) : Int)].getD ((0 : Int)).toNat 0)))) = true) (Ty.nat (List.length (tmA M k)))), (Ty.grd (((((true && true) && (decide ((((List.length [((fct (tmF raw M) : Nat) : Int), ((fct M : Nat) : Int)]) : Nat) : Int) = (2 : Int)))) && (decide (([((fct (tmF raw M) : Nat) : Int), ((fct M : Nat) : Int)].getD ((0 : Int)).toNat 0) = (((fct ((tmF raw i))) : Nat) : Int)))) && (decide ((((fct (tmF raw M)) : Nat) : Int) = ([((fct (tmF raw M) : Nat) : Int), ((fct M : Nat) : Int)].getD ((0 : Int)).toNat 0)))) = true) (Ty.bool (decide (([((fct (tmF raw M) : Nat) : Int), ((fct M : Nat) : Int)].getD ((1 : Int)).toNat 0) = (((List.length (tmA M k)) : Nat) : Int))))), (Ty.bool (((((true && true) && (decide ((((List.length [((fct (tmF raw M) : Nat) : Int), ((fct M : Nat) : Int)]) : Nat) : Int) = (2 : Int)))) && (decide (([((fct (tmF raw M) : Nat) : Int), ((fct M : Nat) : Int)].getD ((0 : Int)).toNat 0) = (((fct ((tmF raw i))) : Nat) : Int)))) && (decide ((((fct (tmF raw M)) : Nat) : Int) = ([((fct (tmF raw M) : Nat) : Int), ((fct M : Nat) : Int)].getD ((0 : Int)).toNat 0)))) && (decide (([((fct (tmF raw M) : Nat) : Int), ((fct M : Nat) : Int)].getD ((1 : Int)).toNat 0) = (((List.length (tmA M k)) : Nat) : Int))))), (Ty.bool (((((true && true) && (decide ((((List.length [((fct (tmF raw M) : Nat) : Int), ((fct M : Nat) : Int)]) : Nat) : Int) = (2 : Int)))) && (decide (([((fct (tmF raw M) : Nat) : Int), ((fct M : Nat) : Int)].getD ((0 : Int)).toNat 0) = (((fct ((tmF raw i))) : Nat) : Int)))) && (decide ((((fct (tmF raw M)) : Nat) : Int) = ([((fct (tmF raw M) : Nat) : Int), ((fct M : Nat) : Int)].getD ((0 : Int)).toNat 0)))) && (decide (([((fct (tmF raw M) : Nat) : Int), ((fct M : Nat) : Int)].getD ((1 : Int)).toNat 0) = (((List.length (tmA M k)) : Nat) : Int)))))] ok35 ⟨?_, ?_, ?_, ?_, ?_, ?_, ?_, ?_, ?_, ?_, ?_, ?_, ?_, ?_, ?_, ?_, ?_, ?_, ?_, ?_, ?_, ?_, ?_, ?_, ?_, ?_, ?_, ?_, ?_, ?_, ?_, ?_, ?_, ?_, ?_, trivial⟩ ?_
      · intro A B E G H; exact rP (y_move (kp (H 14 rfl) E q217))
      · intro A B E G H d0; exact rP ((y_eql (ed d0 rfl rfl rfl) rfl).mono (fun τ _ h => cvb (σ := τ) (by decide) h))
      · intro A B E G H d0; exact rP (y_move (ed d0 rfl rfl rfl))
      · intro A B E G H d0
        refine run_guard G rfl rfl (by decide) (ed d0 rfl rfl rfl) (fun hg => ?_)
        exact y_move (kp (H 16 rfl) E q219)
      · intro A B E G H d0 d1
        refine run_guard G rfl rfl (by decide) (ed d1 rfl rfl rfl) (fun hg => ?_)
        exact (y_eql ((ed d0 rfl rfl rfl).1 hg) rfl).mono (fun τ _ h => cvb (σ := τ) (by decide) h)
      · intro A B E G H d0 d1; exact rP (y_pick_and (ed d0 rfl rfl rfl) (ed d1 rfl rfl rfl) rfl)
      · intro A B E G H d0 d1; exact rP (y_move (ed d0 rfl rfl rfl))
      · intro A B E G H d0
        refine run_guard G rfl rfl (by decide) (ed d0 rfl rfl rfl) (fun hg => ?_)
        obtain ⟨d1, d2⟩ := Bool.and_eq_true_iff.mp hg
        exact y_move (kp (H 13 rfl) E q216)
      · intro A B E G H d0 d1
        refine run_guard G rfl rfl (by decide) (ed d1 rfl rfl rfl) (fun hg => ?_)
        obtain ⟨d3, d4⟩ := Bool.and_eq_true_iff.mp hg
        exact y_len Try.underlying23 ((ed d0 rfl rfl rfl).1 hg)
      · intro A B E G H d0 d1
        refine run_guard G rfl rfl (by decide) (ed d1 rfl rfl rfl) (fun hg => ?_)
        obtain ⟨d5, d6⟩ := Bool.and_eq_true_iff.mp hg
        exact y_eql ((ed d0 rfl rfl rfl).1 hg) rfl
      · intro A B E G H d0 d1; exact rP (y_pick_and (ed d0 rfl rfl rfl) (ed d1 rfl rfl rfl) rfl)
      · intro A B E G H d0 d1; exact rP (y_move (ed d0 rfl rfl rfl))
      · intro A B E G H d0
        refine run_guard G rfl rfl (by decide) (ed d0 rfl rfl rfl) (fun hg => ?_)
        obtain ⟨d7, d8⟩ := Bool.and_eq_true_iff.mp hg
        obtain ⟨d9, d10⟩ := Bool.and_eq_true_iff.mp d7
        have d8 := of_decide_eq_true d8
        exact y_move (kp (H 13 rfl) E q216)
      · intro A B E G H d0 d1
        refine run_guard G rfl rfl (by decide) (ed d1 rfl rfl rfl) (fun hg => ?_)
        obtain ⟨d11, d12⟩ := Bool.and_eq_true_iff.mp hg
        obtain ⟨d13, d14⟩ := Bool.and_eq_true_iff.mp d11
        have d12 := of_decide_eq_true d12
        exact y_index1 Try.underlying23 Try.inf3 ((ed d0 rfl rfl rfl).1 hg) rfl (by omega) (lst_get Ty.int [((fct (tmF raw M) : Nat) : Int), ((fct M : Nat) : Int)] 0 ((0 : Int)).toNat (by omega))
      · intro A B E G H d0 d1
        refine run_guard G rfl rfl (by decide) (ed d1 rfl rfl rfl) (fun hg => ?_)
        obtain ⟨d15, d16⟩ := Bool.and_eq_true_iff.mp hg
        obtain ⟨d17, d18⟩ := Bool.and_eq_true_iff.mp d15
        have d16 := of_decide_eq_true d16
        exact y_load Try.underlying3 rfl ((ed d0 rfl rfl rfl).1 hg) rfl
      · intro A B E G H d0
        refine run_guard G rfl rfl (by decide) (ed d0 rfl rfl rfl) (fun hg => ?_)
        obtain ⟨d19, d20⟩ := Bool.and_eq_true_iff.mp hg
        obtain ⟨d21, d22⟩ := Bool.and_eq_true_iff.mp d19
        have d20 := of_decide_eq_true d20
        exact y_move (kp (H 9 rfl) E q215)
      · intro A B E G H d0 d1 d2
        refine run_guard G rfl rfl (by decide) (ed d1 rfl rfl rfl) (fun hg => ?_)
        obtain ⟨d23, d24⟩ := Bool.and_eq_true_iff.mp hg
        obtain ⟨d25, d26⟩ := Bool.and_eq_true_iff.mp d23
        have d24 := of_decide_eq_true d24
        exact y_call #[A.eval (.tmp 99)] Try.func34 rfl rfl (by simp only [List.map_toArray, List.map_cons, List.map_nil]) (rFact_fn (((tmF raw i))) ((tmF raw i)) _ _ (cvi (σ := B) (by omega) ((ed d0 rfl rfl rfl).1 hg)) (by omega) (by omega))
      · intro A B E G H d0 d1 d2
        refine run_guard G rfl rfl (by decide) (ed d2 rfl rfl rfl) (fun hg => ?_)
        obtain ⟨d27, d28⟩ := Bool.and_eq_true_iff.mp hg
        obtain ⟨d29, d30⟩ := Bool.and_eq_true_iff.mp d27
        have d28 := of_decide_eq_true d28
        exact y_eql ((ed d0 rfl rfl rfl).1 hg) ((ed d1 rfl rfl rfl).1 hg)
      · intro A B E G H d0 d1; exact rP (y_pick_and (ed d0 rfl rfl rfl) (ed d1 rfl rfl rfl) rfl)
      · intro A B E G H d0 d1; exact rP (y_move (ed d0 rfl rfl rfl))
      · intro A B E G H d0
        refine run_guard G rfl rfl (by decide) (ed d0 rfl rfl rfl) (fun hg => ?_)
        obtain ⟨d31, d32⟩ := Bool.and_eq_true_iff.mp hg
        obtain ⟨d33, d34⟩ := Bool.and_eq_true_iff.mp d31
        obtain ⟨d35, d36⟩ := Bool.and_eq_true_iff.mp d33
        have d34 := of_decide_eq_true d34
        have d32 := of_decide_eq_true d32
        exact y_move (kp (H 15 rfl) E q218)
      · intro A B E G H d0
        refine run_guard G rfl rfl (by decide) (ed d0 rfl rfl rfl) (fun hg => ?_)
        obtain ⟨d37, d38⟩ := Bool.and_eq_true_iff.mp hg
        obtain ⟨d39, d40⟩ := Bool.and_eq_true_iff.mp d37
        obtain ⟨d41, d42⟩ := Bool.and_eq_true_iff.mp d39
        have d40 := of_decide_eq_true d40
        have d38 := of_decide_eq_true d38
        exact y_move (kp (H 13 rfl) E q216)
      · intro A B E G H d0 d1
        refine run_guard G rfl rfl (by decide) (ed d1 rfl rfl rfl) (fun hg => ?_)
        obtain ⟨d43, d44⟩ := Bool.and_eq_true_iff.mp hg
        obtain ⟨d45, d46⟩ := Bool.and_eq_true_iff.mp d43
        obtain ⟨d47, d48⟩ := Bool.and_eq_true_iff.mp d45
        have d46 := of_decide_eq_true d46
        have d44 := of_decide_eq_true d44
        exact y_index1 Try.underlying23 Try.inf3 ((ed d0 rfl rfl rfl).1 hg) rfl (by omega) (lst_get Ty.int [((fct (tmF raw M) : Nat) : Int), ((fct M : Nat) : Int)] 0 ((0 : Int)).toNat (by omega))
      · intro A B E G H d0 d1
        refine run_guard G rfl rfl (by decide) (ed d1 rfl rfl rfl) (fun hg => ?_)
        obtain ⟨d49, d50⟩ := Bool.and_eq_true_iff.mp hg
        obtain ⟨d51, d52⟩ := Bool.and_eq_true_iff.mp d49
        obtain ⟨d53, d54⟩ := Bool.and_eq_true_iff.mp d51
        have d52 := of_decide_eq_true d52
        have d50 := of_decide_eq_true d50
        exact y_load Try.underlying3 rfl ((ed d0 rfl rfl rfl).1 hg) rfl
      · intro A B E G H d0 d1 d2
        refine run_guard G rfl rfl (by decide) (ed d2 rfl rfl rfl) (fun hg => ?_)
        obtain ⟨d55, d56⟩ := Bool.and_eq_true_iff.mp hg
        obtain ⟨d57, d58⟩ := Bool.and_eq_true_iff.mp d55
        obtain ⟨d59, d60⟩ := Bool.and_eq_true_iff.mp d57
        have d58 := of_decide_eq_true d58
        have d56 := of_decide_eq_true d56
        exact y_eql ((ed d0 rfl rfl rfl).1 hg) ((ed d1 rfl rfl rfl).1 hg)
      · intro A B E G H d0 d1; exact rP (y_pick_and (ed d0 rfl rfl rfl) (ed d1 rfl rfl rfl) rfl)
      · intro A B E G H d0 d1; exact rP (y_move (ed d0 rfl rfl rfl))
      · intro A B E G H d0
        refine run_guard G rfl rfl (by decide) (ed d0 rfl rfl rfl) (fun hg => ?_)
        obtain ⟨d61, d62⟩ := Bool.and_eq_true_iff.mp hg
        obtain ⟨d63, d64⟩ := Bool.and_eq_true_iff.mp d61
        obtain ⟨d65, d66⟩ := Bool.and_eq_true_iff.mp d63
        obtain ⟨d67, d68⟩ := Bool.and_eq_true_iff.mp d65
        have d66 := of_decide_eq_true d66
        have d64 := of_decide_eq_true d64
        have d62 := of_decide_eq_true d62
        exact y_move (kp (H 13 rfl) E q216)
      · intro A B E G H d0 d1
        refine run_guard G rfl rfl (by decide) (ed d1 rfl rfl rfl) (fun hg => ?_)
        obtain ⟨d69, d70⟩ := Bool.and_eq_true_iff.mp hg
        obtain ⟨d71, d72⟩ := Bool.and_eq_true_iff.mp d69
        obtain ⟨d73, d74⟩ := Bool.and_eq_true_iff.mp d71
        obtain ⟨d75, d76⟩ := Bool.and_eq_true_iff.mp d73
        have d74 := of_decide_eq_true d74
        have d72 := of_decide_eq_true d72
        have d70 := of_decide_eq_true d70
        exact y_index1 Try.underlying23 Try.inf3 ((ed d0 rfl rfl rfl).1 hg) rfl (by omega) (lst_get Ty.int [((fct (tmF raw M) : Nat) : Int), ((fct M : Nat) : Int)] 0 ((1 : Int)).toNat (by omega))
      · intro A B E G H d0 d1
        refine run_guard G rfl rfl (by decide) (ed d1 rfl rfl rfl) (fun hg => ?_)
        obtain ⟨d77, d78⟩ := Bool.and_eq_true_iff.mp hg
        obtain ⟨d79, d80⟩ := Bool.and_eq_true_iff.mp d77
        obtain ⟨d81, d82⟩ := Bool.and_eq_true_iff.mp d79
        obtain ⟨d83, d84⟩ := Bool.and_eq_true_iff.mp d81
        have d82 := of_decide_eq_true d82
        have d80 := of_decide_eq_true d80
        have d78 := of_decide_eq_true d78
        exact y_load Try.underlying3 rfl ((ed d0 rfl rfl rfl).1 hg) rfl
      · intro A B E G H d0
        refine run_guard G rfl rfl (by decide) (ed d0 rfl rfl rfl) (fun hg => ?_)
        obtain ⟨d85, d86⟩ := Bool.and_eq_true_iff.mp hg
        obtain ⟨d87, d88⟩ := Bool.and_eq_true_iff.mp d85
        obtain ⟨d89, d90⟩ := Bool.and_eq_true_iff.mp d87
        obtain ⟨d91, d92⟩ := Bool.and_eq_true_iff.mp d89
        have d90 := of_decide_eq_true d90
        have d88 := of_decide_eq_true d88
        have d86 := of_decide_eq_true d86
        exact y_move (kp (H 11 rfl) E q214)
      · intro A B E G H d0 d1
        refine run_guard G rfl rfl (by decide) (ed d1 rfl rfl rfl) (fun hg => ?_)
        obtain ⟨d93, d94⟩ := Bool.and_eq_true_iff.mp hg
        obtain ⟨d95, d96⟩ := Bool.and_eq_true_iff.mp d93
        obtain ⟨d97, d98⟩ := Bool.and_eq_true_iff.mp d95
        obtain ⟨d99, d100⟩ := Bool.and_eq_true_iff.mp d97
        have d98 := of_decide_eq_true d98
        have d96 := of_decide_eq_true d96
        have d94 := of_decide_eq_true d94
        exact y_len Try.underlying29 ((ed d0 rfl rfl rfl).1 hg)
      · intro A B E G H d0 d1 d2
        refine run_guard G rfl rfl (by decide) (ed d2 rfl rfl rfl) (fun hg => ?_)
        obtain ⟨d101, d102⟩ := Bool.and_eq_true_iff.mp hg
        obtain ⟨d103, d104⟩ := Bool.and_eq_true_iff.mp d101
        obtain ⟨d105, d106⟩ := Bool.and_eq_true_iff.mp d103
        obtain ⟨d107, d108⟩ := Bool.and_eq_true_iff.mp d105
        have d106 := of_decide_eq_true d106
        have d104 := of_decide_eq_true d104
        have d102 := of_decide_eq_true d102
        exact y_eql ((ed d0 rfl rfl rfl).1 hg) ((ed d1 rfl rfl rfl).1 hg)
      · intro A B E G H d0 d1; exact rP (y_pick_and (ed d0 rfl rfl rfl) (ed d1 rfl rfl rfl) rfl)
      · intro A B E G H d0 d1 d2 d3 d4 d5 d6 d7 d8 d9 d10 d11 d12 d13 d14 d15 d16 d17 d18 d19 d20 d21 d22 d23 d24 d25 d26 d27 d28 d29 d30 d31 d32 d33 d34 d35; exact rP (y_assign (ed d0 rfl rfl rfl))
      intro a38 s34 D32; have ok36 := D32.ok; have F37 := F36.step0 D32.stp; have q220 := D32.dn 34 rfl rfl; clear D32; refine tn ?_; refine wp_ret ?_
      exact retL1 rfl ok36 F37 (cvb (by (rw [hie, tmA_len, hkf]; simp)) q220)


end Go.Proofs.Ytbilebfnanlgfaa
