/- The functions that the law CallSays reaches, each by its contract. Part 5. -/
import Derived.Test.YtbilebfnanlgfaaDoorCallSaysW4
namespace Go.Proofs.YtbilebfnanlgfaaDoor
open Go.KL

set_option maxHeartbeats 4000000 in
set_option maxRecDepth 100000 in
theorem rPrintTouch_fn (cs : List BCall) (l : List Int) (σ : GW)  (v0 v1 : Value) (hv0 : Ty.has (Ty.lstc 2 callC cs) σ v0) (hv1 : Ty.has (Ty.lst Ty.int l) σ v1)   :
    FnC Tryd.prog 11 #[v0, v1] σ (Ty.tup2 (Ty.val (Value.string (ptT cs l))) (Ty.int (ptE cs l))) := by
 obtain ⟨T, hT⟩ : ∃ T, T = prR cs 0 l := ⟨_, rfl⟩
 have hTs := prt_size cs 0 l
 rw [← hT] at hTs
 refine fn_intro0 Tryd.func11 rfl Tryd.ntmps11 (Nat.le_of_ble_eq_true rfl) (fun s0 a0 hle F0 ok0 hargs => ?_)
 have p0 : At (Ty.lstc 2 callC cs) s0 a0 (.tmp 0) := by have e := hargs 0 _ rfl; show Ty.has _ _ _; rw [e]; exact Ty.up _ hle hv0
 have b1 := sl_le p0
 have p1 : At (Ty.lst Ty.int l) s0 a0 (.tmp 1) := by have e := hargs 1 _ rfl; show Ty.has _ _ _; rw [e]; exact Ty.up _ hle hv1
 have b2 := sl_le p1
 clear hargs; refine wp_seq ?_
 refine rg a0 s0 [(Ty.val (Value.string (ByteArray.mk #[]))), (Ty.int (0 : Int))] ok0 ⟨?_, ?_, trivial⟩ ?_
 · intro A B E G H; exact rP (y_assign rfl)
 · intro A B E G H d0; exact rP (y_assign rfl)
 intro a1 s1 D1; have ok1 := D1.ok; have F1 := F0.step0 D1.stp; have q1 := D1.kt p0 rfl; have q2 := D1.kt p1 rfl; clear D1; refine tn ?_; refine wp_seq ?_; refine wp_seq ?_
 refine rg a1 s1 [(Ty.lst Ty.int l), (Ty.nat (List.length l)), (Ty.bool (decide ((((List.length l) : Nat) : Int) < (1 : Int)))), (Ty.bool (decide ((((List.length l) : Nat) : Int) < (1 : Int)))), (Ty.grd ((decide ((((List.length l) : Nat) : Int) < (1 : Int))) = false) (Ty.lst Ty.int l)), (Ty.grd ((decide ((((List.length l) : Nat) : Int) < (1 : Int))) = false) (Ty.nat (List.length l))), (Ty.grd ((decide ((((List.length l) : Nat) : Int) < (1 : Int))) = false) (Ty.bool (decide ((400 : Int) < (((List.length l) : Nat) : Int))))), (Ty.bool ((decide ((((List.length l) : Nat) : Int) < (1 : Int))) || (decide ((400 : Int) < (((List.length l) : Nat) : Int)))))] ok1 ⟨?_, ?_, ?_, ?_, ?_, ?_, ?_, ?_, trivial⟩ ?_
 · intro A B E G H; exact rP (y_move (kp (H 1 rfl) E q2))
 · intro A B E G H d0; exact rP (y_len Tryd.underlying26 (ed d0 rfl rfl rfl))
 · intro A B E G H d0; exact rP (y_lss (ed d0 rfl rfl rfl) rfl)
 · intro A B E G H d0; exact rP (y_move (ed d0 rfl rfl rfl))
 · intro A B E G H d0
   refine run_guard G rfl rfl (by decide) (ed d0 rfl rfl rfl) (fun hg => ?_)
   have hp := of_decide_eq_false hg
   exact y_move (kp (H 1 rfl) E q2)
 · intro A B E G H d0 d1
   refine run_guard G rfl rfl (by decide) (ed d1 rfl rfl rfl) (fun hg => ?_)
   have hp := of_decide_eq_false hg
   exact y_len Tryd.underlying26 ((ed d0 rfl rfl rfl).1 hg)
 · intro A B E G H d0 d1
   refine run_guard G rfl rfl (by decide) (ed d1 rfl rfl rfl) (fun hg => ?_)
   have hp := of_decide_eq_false hg
   exact y_gtr ((ed d0 rfl rfl rfl).1 hg) rfl
 · intro A B E G H d0 d1; exact rP (y_pick_or (ed d0 rfl rfl rfl) rfl (ed d1 rfl rfl rfl))
 intro a2 s2 D2; have ok2 := D2.ok; have F2 := F1.step0 D2.stp; have q3 := D2.kt q1 rfl; have q4 := D2.kt q2 rfl; have q5 := D2.dn 7 rfl rfl; clear D2; refine tn ?_
 refine cond_t q5 (fun c1 => ?_) (fun c1 => ?_)
 ·
  simp only [Bool.or_eq_true, decide_eq_true_eq] at c1; have hcc : l.length < 1 ∨ 400 < l.length := (by omega)
  refine wp_seq ?_
  refine rg a2 s2 [(Ty.val (Value.string (ByteArray.mk #[]))), (Ty.int (1 : Int))] ok2 ⟨?_, ?_, trivial⟩ ?_
  · intro A B E G H; exact rP (y_assign rfl)
  · intro A B E G H d0 d1; exact rP (y_assign rfl)
  intro a3 s3 D3; have ok3 := D3.ok; have F3 := F2.step0 D3.stp; have q6 := D3.dn 0 rfl rfl; have q7 := D3.dn 1 rfl rfl; clear D3; refine tn ?_; refine wp_ret ?_; refine tr ?_
  exact retL2 rfl ok3 F3 (hasT2 (cvt (by (rw [(pt_cnt hcc).2]; rfl)) q6) (cvi (by (exact (pt_cnt hcc).1.symm)) q7))
 ·
  obtain ⟨d1, d2⟩ := Bool.or_eq_false_iff.mp c1
  replace d1 := of_decide_eq_false d1
  replace d2 := of_decide_eq_false d2
  have hcc : ¬ (l.length < 1 ∨ 400 < l.length) := (by simp only [Bool.or_eq_false_iff, decide_eq_false_iff_not] at c1; omega)
  refine wp_skip ?_; refine tn ?_; refine wp_seq ?_; refine wp_seq ?_
  refine rg a2 s2 [(Ty.int (0 : Int))] ok2 ⟨?_, trivial⟩ ?_
  · intro A B E G H; exact rP (y_assign rfl)
  intro a4 s4 D4; have ok4 := D4.ok; have F4 := F2.step0 D4.stp; have q8 := D4.kt q3 rfl; have q9 := D4.kt q4 rfl; have q10 := D4.dn 0 rfl rfl; clear D4; refine tn ?_; refine wp_block ?_
  refine loop (fun n1 a5 w1 => ∃ (t1 : GW) (i : Nat), t1.w = w1 ∧ FromL [] s0 t1 ∧ Ok 85 a5 ∧ At (Ty.nat i) t1 a5 (.tmp 6) ∧ At (Ty.lstc 2 callC cs) t1 a5 (.tmp 0) ∧ At (Ty.lst Ty.int l) t1 a5 (.tmp 1) ∧ (i ≤ l.length) ∧ (∀ k, k < i → 0 ≤ l.getD k 0 ∧ l.getD k 0 < (cs.length : Int)) ∧ n1 = l.length - i) (l.length - (0)) ?_ ?_
  ·
   exact ⟨s4, 0, rfl, F4, ok4, (cvi (by (first | rfl | omega | (simp_all; done) | (simp_all; omega))) q10), q8, q9, by omega, fun j hj => absurd hj (Nat.not_lt_zero j), rfl⟩
  ·
   rintro n2 a6 w2 ⟨t2, i, rfl, F5, ok5, q11, q12, q13, hi, hin, rfl⟩
   refine wp_seq ?_; refine wp_seq ?_
   refine reg (a := a6) (σ := t2) rfl (fun i_ => List.getD [(Ty.pr (Ty.nat i)), (Ty.pr (Ty.lst Ty.int l)), (Ty.pr (Ty.nat (List.length l))), (Ty.pr (Ty.bool (decide (((i : Nat) : Int) < (((List.length l) : Nat) : Int)))))] i_ Pr.any) ok5 rfl ⟨?_, ?_, ?_, ?_, trivial⟩ ?_
   · intro A B E G H; exact rP (y_move (kp (H 6 rfl) E q11))
   · intro A B E G H; exact rP (y_move (kp (H 1 rfl) E q13))
   · intro A B E G H d0; exact rP (y_len Tryd.underlying26 (ed d0 rfl rfl rfl))
   · intro A B E G H d0 d1; exact rP (y_lss (ed d0 rfl rfl rfl) (ed d1 rfl rfl rfl))
   intro a7 s5 D5; have ok6 := D5.ok; have F6 := F5.step0 D5.stp; have q14 := D5.kt q11 rfl; have q15 := D5.kt q12 rfl; have q16 := D5.kt q13 rfl; have q17 := D5.dn 3 rfl rfl; clear D5; refine tn ?_
   refine cond_p (p := (((i : Nat) : Int) < (((List.length l) : Nat) : Int))) q17 (fun c2 => ?_) (fun c2 => ?_)
   ·
    refine wp_skip ?_; refine tn ?_; refine wp_seq ?_; refine wp_block ?_; refine wp_seq ?_
    refine rg a7 s5 [(Ty.lst Ty.int l), (Ty.nat i), (Ty.ref [(Ty.int (l.getD i 0))]), (Ty.int (l.getD i 0)), (Ty.bool (decide ((l.getD i 0) < (0 : Int)))), (Ty.bool (decide ((l.getD i 0) < (0 : Int)))), (Ty.grd ((decide ((l.getD i 0) < (0 : Int))) = false) (Ty.lst Ty.int l)), (Ty.grd ((decide ((l.getD i 0) < (0 : Int))) = false) (Ty.nat i)), (Ty.grd ((decide ((l.getD i 0) < (0 : Int))) = false) (Ty.ref [(Ty.int (l.getD i 0))])), (Ty.grd ((decide ((l.getD i 0) < (0 : Int))) = false) (Ty.int (l.getD i 0))), (Ty.grd ((decide ((l.getD i 0) < (0 : Int))) = false) (Ty.lstc 2 callC cs)), (Ty.grd ((decide ((l.getD i 0) < (0 : Int))) = false) (Ty.nat (List.length cs))), (Ty.grd ((decide ((l.getD i 0) < (0 : Int))) = false) (Ty.bool (decide ((((List.length cs) : Nat) : Int) ≤ (l.getD i 0))))), (Ty.bool ((decide ((l.getD i 0) < (0 : Int))) || (decide ((((List.length cs) : Nat) : Int) ≤ (l.getD i 0)))))] ok6 ⟨?_, ?_, ?_, ?_, ?_, ?_, ?_, ?_, ?_, ?_, ?_, ?_, ?_, ?_, trivial⟩ ?_
    · intro A B E G H; exact rP (y_move (kp (H 1 rfl) E q16))
    · intro A B E G H; exact rP (y_move (kp (H 6 rfl) E q14))
    · intro A B E G H d0 d1; exact rP (y_index1 Tryd.underlying26 Tryd.inf3 (ed d0 rfl rfl rfl) (ed d1 rfl rfl rfl) (by omega) (lst_get Ty.int l 0 i (by omega)))
    · intro A B E G H d0; exact rP (y_load Tryd.underlying3 rfl (ed d0 rfl rfl rfl) rfl)
    · intro A B E G H d0; exact rP (y_lss (ed d0 rfl rfl rfl) rfl)
    · intro A B E G H d0; exact rP (y_move (ed d0 rfl rfl rfl))
    · intro A B E G H d0
      refine run_guard G rfl rfl (by decide) (ed d0 rfl rfl rfl) (fun hg => ?_)
      have hp := of_decide_eq_false hg
      exact y_move (kp (H 1 rfl) E q16)
    · intro A B E G H d0
      refine run_guard G rfl rfl (by decide) (ed d0 rfl rfl rfl) (fun hg => ?_)
      have hp := of_decide_eq_false hg
      exact y_move (kp (H 6 rfl) E q14)
    · intro A B E G H d0 d1 d2
      refine run_guard G rfl rfl (by decide) (ed d2 rfl rfl rfl) (fun hg => ?_)
      have hp := of_decide_eq_false hg
      exact y_index1 Tryd.underlying26 Tryd.inf3 ((ed d0 rfl rfl rfl).1 hg) ((ed d1 rfl rfl rfl).1 hg) (by omega) (lst_get Ty.int l 0 i (by omega))
    · intro A B E G H d0 d1
      refine run_guard G rfl rfl (by decide) (ed d1 rfl rfl rfl) (fun hg => ?_)
      have hp := of_decide_eq_false hg
      exact y_load Tryd.underlying3 rfl ((ed d0 rfl rfl rfl).1 hg) rfl
    · intro A B E G H d0
      refine run_guard G rfl rfl (by decide) (ed d0 rfl rfl rfl) (fun hg => ?_)
      have hp := of_decide_eq_false hg
      exact y_move (kp (H 0 rfl) E q15)
    · intro A B E G H d0 d1
      refine run_guard G rfl rfl (by decide) (ed d1 rfl rfl rfl) (fun hg => ?_)
      have hp := of_decide_eq_false hg
      exact y_len Tryd.underlying25 ((ed d0 rfl rfl rfl).1 hg)
    · intro A B E G H d0 d1 d2
      refine run_guard G rfl rfl (by decide) (ed d2 rfl rfl rfl) (fun hg => ?_)
      have hp := of_decide_eq_false hg
      exact y_geq ((ed d0 rfl rfl rfl).1 hg) ((ed d1 rfl rfl rfl).1 hg)
    · intro A B E G H d0 d1; exact rP (y_pick_or (ed d0 rfl rfl rfl) rfl (ed d1 rfl rfl rfl))
    intro a8 s6 D6; have ok7 := D6.ok; have F7 := F6.step0 D6.stp; have q18 := D6.kt q14 rfl; have q19 := D6.kt q15 rfl; have q20 := D6.kt q16 rfl; have q21 := D6.dn 13 rfl rfl; clear D6; refine tn ?_
    refine cond_t q21 (fun c3 => ?_) (fun c3 => ?_)
    ·
     simp only [Bool.or_eq_true, decide_eq_true_eq] at c3; have hbv : l.getD i 0 < 0 ∨ (cs.length : Int) ≤ l.getD i 0 := (by omega)
     refine wp_seq ?_
     refine rg a8 s6 [(Ty.val (Value.string (ByteArray.mk #[]))), (Ty.int (12 : Int))] ok7 ⟨?_, ?_, trivial⟩ ?_
     · intro A B E G H; exact rP (y_assign rfl)
     · intro A B E G H d0 d1; exact rP (y_assign rfl)
     intro a9 s7 D7; have ok8 := D7.ok; have F8 := F7.step0 D7.stp; have q22 := D7.dn 0 rfl rfl; have q23 := D7.dn 1 rfl rfl; clear D7; refine tn ?_; refine wp_ret ?_; refine br ?_; refine tr ?_; refine tr ?_; refine br ?_; refine tr ?_
     exact retL2 rfl ok8 F8 (hasT2 (cvt (by (rw [(pt_val hcc (k := i) (by omega) hbv).2]; rfl)) q22) (cvi (by (exact (pt_val hcc (k := i) (by omega) hbv).1.symm)) q23))
    ·
     obtain ⟨d3, d4⟩ := Bool.or_eq_false_iff.mp c3
     replace d3 := of_decide_eq_false d3
     replace d4 := of_decide_eq_false d4
     simp only [Bool.or_eq_false_iff, decide_eq_false_iff_not] at c3
     refine wp_skip ?_; refine bn ?_; refine tn ?_
     refine rg a8 s6 [(Ty.nat i), (Ty.nat (i + 1)), (Ty.nat (i + 1))] ok7 ⟨?_, ?_, ?_, trivial⟩ ?_
     · intro A B E G H; exact rP (y_move (kp (H 6 rfl) E q18))
     · intro A B E G H d0; exact rP ((y_add (ed d0 rfl rfl rfl) rfl (w64 (by omega) (by omega))).mono (fun τ _ h => cvi (σ := τ) (by first | omega | exact (Int.natCast_mul _ _).symm) h))
     · intro A B E G H d0 d1 d2; exact rP (y_assign (ed d0 rfl rfl rfl))
     intro a10 s8 D8; have ok9 := D8.ok; have F9 := F7.step0 D8.stp; have q24 := D8.kt q19 rfl; have q25 := D8.kt q20 rfl; have q26 := D8.dn 2 rfl rfl; clear D8
     exact tn ⟨l.length - ((i+1)), by omega, s8, (i+1), rfl, F9, ok9, (cvi (by (first | rfl | omega | (simp_all; done) | (simp_all; omega))) q26), q24, q25, by omega, fun k hk => by (by_cases e : k = i; (subst e; omega); exact hin k (by omega)), rfl⟩
   ·
    have hin2 : ∀ k, k < l.length → 0 ≤ l.getD k 0 ∧ l.getD k 0 < (cs.length : Int) := fun k hk => hin k (by omega)
    refine wp_exit ?_; refine tx ?_; refine tx ?_; refine bx ?_; refine tn ?_; refine wp_seq ?_
    refine rg a7 s5 [(Ty.val (Value.string (ByteArray.mk #[])))] ok6 ⟨?_, trivial⟩ ?_
    · intro A B E G H; exact rP (y_assign rfl)
    intro a11 s9 D9; have ok10 := D9.ok; have F10 := F6.step0 D9.stp; have q27 := D9.kt q15 rfl; have q28 := D9.kt q16 rfl; have q29 := D9.dn 0 rfl rfl; clear D9; refine tn ?_; refine wp_seq ?_
    refine rg a11 s9 [(Ty.int (0 : Int))] ok10 ⟨?_, trivial⟩ ?_
    · intro A B E G H; exact rP (y_assign rfl)
    intro a12 s10 D10; have ok11 := D10.ok; have F11 := F10.step0 D10.stp; have q30 := D10.kt q27 rfl; have q31 := D10.kt q28 rfl; have q32 := D10.kt q29 rfl; have q33 := D10.dn 0 rfl rfl; clear D10; refine tn ?_; refine wp_seq ?_; refine wp_seq ?_
    refine rg a12 s10 [(Ty.int (0 : Int))] ok11 ⟨?_, trivial⟩ ?_
    · intro A B E G H; exact rP (y_assign rfl)
    intro a13 s11 D11; have ok12 := D11.ok; have F12 := F11.step0 D11.stp; have q34 := D11.kt q30 rfl; have q35 := D11.kt q31 rfl; have q36 := D11.kt q32 rfl; have q37 := D11.kt q33 rfl; have q38 := D11.dn 0 rfl rfl; clear D11; refine tn ?_; refine wp_block ?_
    refine loop (fun n3 a14 w3 => ∃ (t3 : GW) (j : Nat) (n : Nat) (s : ByteArray), t3.w = w3 ∧ FromL [] s0 t3 ∧ Ok 85 a14 ∧ At (Ty.nat j) t3 a14 (.tmp 9) ∧ At (Ty.nat n) t3 a14 (.tmp 8) ∧ At (Ty.val (Value.string s)) t3 a14 (.tmp 7) ∧ At (Ty.lstc 2 callC cs) t3 a14 (.tmp 0) ∧ At (Ty.lst Ty.int l) t3 a14 (.tmp 1) ∧ (s ++ prR cs n (List.drop j l) = T) ∧ (j ≤ l.length) ∧ (n ≤ 98) ∧ n3 = l.length - j) (l.length - (0)) ?_ ?_
    ·
     exact ⟨s11, 0, 0, ByteArray.empty, rfl, F12, ok12, (cvi (by (rfl)) q38), (cvi (by (rfl)) q37), (cvt (by (rfl)) q36), q34, q35, by rw [ba_nil', List.drop_zero, hT], by omega, by omega, rfl⟩
    ·
     rintro n4 a15 w4 ⟨t4, j, n, s, rfl, F13, ok13, q39, q40, q41, q42, q43, E, hj, hn, rfl⟩
     have hss : s.size ≤ T.size := by rw [← E, ByteArray.size_append]; omega
     have hes := (enc_size (cs.getD (l.getD j 0).toNat D0).1).2
     have hds := dec_size (n := n + 1)
     refine wp_seq ?_; refine wp_seq ?_
     refine reg (a := a15) (σ := t4) rfl (fun i_ => List.getD [(Ty.pr (Ty.nat j)), (Ty.pr (Ty.lst Ty.int l)), (Ty.pr (Ty.nat (List.length l))), (Ty.pr (Ty.bool (decide (((j : Nat) : Int) < (((List.length l) : Nat) : Int)))))] i_ Pr.any) ok13 rfl ⟨?_, ?_, ?_, ?_, trivial⟩ ?_
     · intro A B E G H; exact rP (y_move (kp (H 9 rfl) E q39))
     · intro A B E G H; exact rP (y_move (kp (H 1 rfl) E q43))
     · intro A B E G H d0; exact rP (y_len Tryd.underlying26 (ed d0 rfl rfl rfl))
     · intro A B E G H d0 d1; exact rP (y_lss (ed d0 rfl rfl rfl) (ed d1 rfl rfl rfl))
     intro a16 s12 D12; have ok14 := D12.ok; have F14 := F13.step0 D12.stp; have q44 := D12.kt q39 rfl; have q45 := D12.kt q40 rfl; have q46 := D12.kt q41 rfl; have q47 := D12.kt q42 rfl; have q48 := D12.kt q43 rfl; have q49 := D12.dn 3 rfl rfl; clear D12; refine tn ?_
     refine cond_p (p := (((j : Nat) : Int) < (((List.length l) : Nat) : Int))) q49 (fun c4 => ?_) (fun c4 => ?_)
     ·
      have hjv := hin2 j (by omega)
      refine wp_skip ?_; refine tn ?_; refine wp_seq ?_; refine wp_block ?_; refine wp_seq ?_
      refine rg a16 s12 [(Ty.nat n), (Ty.nat (n + 1)), (Ty.nat (n + 1))] ok14 ⟨?_, ?_, ?_, trivial⟩ ?_
      · intro A B E G H; exact rP (y_move (kp (H 8 rfl) E q45))
      · intro A B E G H d0; exact rP ((y_add (ed d0 rfl rfl rfl) rfl (w64 (by omega) (by omega))).mono (fun τ _ h => cvi (σ := τ) (by first | omega | exact (Int.natCast_mul _ _).symm) h))
      · intro A B E G H d0 d1 d2; exact rP (y_assign (ed d0 rfl rfl rfl))
      intro a17 s13 D13; have ok15 := D13.ok; have F15 := F14.step0 D13.stp; have q50 := D13.kt q44 rfl; have q51 := D13.kt q46 rfl; have q52 := D13.kt q47 rfl; have q53 := D13.kt q48 rfl; have q54 := D13.dn 2 rfl rfl; clear D13; refine tn ?_; refine wp_seq ?_; refine wp_seq ?_
      refine rg a17 s13 [(Ty.nat j), (Ty.nat (j + 1)), (Ty.lst Ty.int l), (Ty.nat (List.length l)), (Ty.bool (decide ((((j + 1) : Nat) : Int) < (((List.length l) : Nat) : Int)))), (Ty.bool (decide ((((j + 1) : Nat) : Int) < (((List.length l) : Nat) : Int)))), (Ty.grd ((decide ((((j + 1) : Nat) : Int) < (((List.length l) : Nat) : Int))) = true) (Ty.lst Ty.int l)), (Ty.grd ((decide ((((j + 1) : Nat) : Int) < (((List.length l) : Nat) : Int))) = true) (Ty.nat j)), (Ty.grd ((decide ((((j + 1) : Nat) : Int) < (((List.length l) : Nat) : Int))) = true) (Ty.nat (j + 1))), (Ty.grd ((decide ((((j + 1) : Nat) : Int) < (((List.length l) : Nat) : Int))) = true) (Ty.ref [(Ty.int (l.getD (j + 1) 0))])), (Ty.grd ((decide ((((j + 1) : Nat) : Int) < (((List.length l) : Nat) : Int))) = true) (Ty.int (l.getD (j + 1) 0))), (Ty.grd ((decide ((((j + 1) : Nat) : Int) < (((List.length l) : Nat) : Int))) = true) (Ty.lst Ty.int l)), (Ty.grd ((decide ((((j + 1) : Nat) : Int) < (((List.length l) : Nat) : Int))) = true) (Ty.nat j)), (Ty.grd ((decide ((((j + 1) : Nat) : Int) < (((List.length l) : Nat) : Int))) = true) (Ty.ref [(Ty.int (l.getD j 0))])), (Ty.grd ((decide ((((j + 1) : Nat) : Int) < (((List.length l) : Nat) : Int))) = true) (Ty.int (l.getD j 0))), (Ty.grd ((decide ((((j + 1) : Nat) : Int) < (((List.length l) : Nat) : Int))) = true) (Ty.bool (decide ((l.getD (j + 1) 0) = (l.getD j 0))))), (Ty.bool ((decide ((((j + 1) : Nat) : Int) < (((List.length l) : Nat) : Int))) && (decide ((l.getD (j + 1) 0) = (l.getD j 0))))), (Ty.bool ((decide ((((j + 1) : Nat) : Int) < (((List.length l) : Nat) : Int))) && (decide ((l.getD (j + 1) 0) = (l.getD j 0))))), (Ty.grd (((decide ((((j + 1) : Nat) : Int) < (((List.length l) : Nat) : Int))) && (decide ((l.getD (j + 1) 0) = (l.getD j 0)))) = true) (Ty.nat (n + 1))), (Ty.grd (((decide ((((j + 1) : Nat) : Int) < (((List.length l) : Nat) : Int))) && (decide ((l.getD (j + 1) 0) = (l.getD j 0)))) = true) (Ty.bool (decide ((((n + 1) : Nat) : Int) < (99 : Int))))), (Ty.bool (((decide ((((j + 1) : Nat) : Int) < (((List.length l) : Nat) : Int))) && (decide ((l.getD (j + 1) 0) = (l.getD j 0)))) && (decide ((((n + 1) : Nat) : Int) < (99 : Int)))))] ok15 ⟨?_, ?_, ?_, ?_, ?_, ?_, ?_, ?_, ?_, ?_, ?_, ?_, ?_, ?_, ?_, ?_, ?_, ?_, ?_, ?_, ?_, trivial⟩ ?_
      · intro A B E G H; exact rP (y_move (kp (H 9 rfl) E q50))
      · intro A B E G H d0; exact rP ((y_add (ed d0 rfl rfl rfl) rfl (w64 (by omega) (by omega))).mono (fun τ _ h => cvi (σ := τ) (by first | omega | exact (Int.natCast_mul _ _).symm) h))
      · intro A B E G H; exact rP (y_move (kp (H 1 rfl) E q53))
      · intro A B E G H d0; exact rP (y_len Tryd.underlying26 (ed d0 rfl rfl rfl))
      · intro A B E G H d0 d1; exact rP (y_lss (ed d0 rfl rfl rfl) (ed d1 rfl rfl rfl))
      · intro A B E G H d0; exact rP (y_move (ed d0 rfl rfl rfl))
      · intro A B E G H d0
        refine run_guard G rfl rfl (by decide) (ed d0 rfl rfl rfl) (fun hg => ?_)
        have hp := of_decide_eq_true hg
        exact y_move (kp (H 1 rfl) E q53)
      · intro A B E G H d0
        refine run_guard G rfl rfl (by decide) (ed d0 rfl rfl rfl) (fun hg => ?_)
        have hp := of_decide_eq_true hg
        exact y_move (kp (H 9 rfl) E q50)
      · intro A B E G H d0 d1
        refine run_guard G rfl rfl (by decide) (ed d1 rfl rfl rfl) (fun hg => ?_)
        have hp := of_decide_eq_true hg
        exact (y_add ((ed d0 rfl rfl rfl).1 hg) rfl (w64 (by omega) (by omega))).mono (fun τ _ h => cvi (σ := τ) (by first | omega | exact (Int.natCast_mul _ _).symm) h)
      · intro A B E G H d0 d1 d2
        refine run_guard G rfl rfl (by decide) (ed d2 rfl rfl rfl) (fun hg => ?_)
        have hp := of_decide_eq_true hg
        exact y_index1 Tryd.underlying26 Tryd.inf3 ((ed d0 rfl rfl rfl).1 hg) ((ed d1 rfl rfl rfl).1 hg) (by omega) (lst_get Ty.int l 0 (j + 1) (by omega))
      · intro A B E G H d0 d1
        refine run_guard G rfl rfl (by decide) (ed d1 rfl rfl rfl) (fun hg => ?_)
        have hp := of_decide_eq_true hg
        exact y_load Tryd.underlying3 rfl ((ed d0 rfl rfl rfl).1 hg) rfl
      · intro A B E G H d0
        refine run_guard G rfl rfl (by decide) (ed d0 rfl rfl rfl) (fun hg => ?_)
        have hp := of_decide_eq_true hg
        exact y_move (kp (H 1 rfl) E q53)
      · intro A B E G H d0
        refine run_guard G rfl rfl (by decide) (ed d0 rfl rfl rfl) (fun hg => ?_)
        have hp := of_decide_eq_true hg
        exact y_move (kp (H 9 rfl) E q50)
      · intro A B E G H d0 d1 d2
        refine run_guard G rfl rfl (by decide) (ed d2 rfl rfl rfl) (fun hg => ?_)
        have hp := of_decide_eq_true hg
        exact y_index1 Tryd.underlying26 Tryd.inf3 ((ed d0 rfl rfl rfl).1 hg) ((ed d1 rfl rfl rfl).1 hg) (by omega) (lst_get Ty.int l 0 j (by omega))
      · intro A B E G H d0 d1
        refine run_guard G rfl rfl (by decide) (ed d1 rfl rfl rfl) (fun hg => ?_)
        have hp := of_decide_eq_true hg
        exact y_load Tryd.underlying3 rfl ((ed d0 rfl rfl rfl).1 hg) rfl
      · intro A B E G H d0 d1 d2
        refine run_guard G rfl rfl (by decide) (ed d2 rfl rfl rfl) (fun hg => ?_)
        have hp := of_decide_eq_true hg
        exact y_eql ((ed d0 rfl rfl rfl).1 hg) ((ed d1 rfl rfl rfl).1 hg)
      · intro A B E G H d0 d1; exact rP (y_pick_and (ed d0 rfl rfl rfl) (ed d1 rfl rfl rfl) rfl)
      · intro A B E G H d0 d1; exact rP (y_move (ed d0 rfl rfl rfl))
      · intro A B E G H d0
        refine run_guard G rfl rfl (by decide) (ed d0 rfl rfl rfl) (fun hg => ?_)
        obtain ⟨d5, d6⟩ := Bool.and_eq_true_iff.mp hg
        have d5 := of_decide_eq_true d5
        have d6 := of_decide_eq_true d6
        exact y_move (kp (H 8 rfl) E q54)
      · intro A B E G H d0 d1
        refine run_guard G rfl rfl (by decide) (ed d1 rfl rfl rfl) (fun hg => ?_)
        obtain ⟨d7, d8⟩ := Bool.and_eq_true_iff.mp hg
        have d7 := of_decide_eq_true d7
        have d8 := of_decide_eq_true d8
        exact y_lss ((ed d0 rfl rfl rfl).1 hg) rfl
      · intro A B E G H d0 d1; exact rP (y_pick_and (ed d0 rfl rfl rfl) (ed d1 rfl rfl rfl) rfl)
      intro a18 s14 D14; have ok16 := D14.ok; have F16 := F15.step0 D14.stp; have q55 := D14.kt q50 rfl; have q56 := D14.kt q51 rfl; have q57 := D14.kt q52 rfl; have q58 := D14.kt q53 rfl; have q59 := D14.kt q54 rfl; have q60 := D14.dn 20 rfl rfl; clear D14; refine tn ?_
      refine cond_t q60 (fun c5 => ?_) (fun c5 => ?_)
      ·
       obtain ⟨d9, d10⟩ := Bool.and_eq_true_iff.mp c5
       obtain ⟨d11, d12⟩ := Bool.and_eq_true_iff.mp d9
       replace d11 := of_decide_eq_true d11
       replace d12 := of_decide_eq_true d12
       replace d10 := of_decide_eq_true d10
       simp only [Bool.and_eq_true, decide_eq_true_eq] at c5
       refine wp_exit ?_; refine tx ?_; refine bx ?_; refine tn ?_
       refine rg a18 s14 [(Ty.nat j), (Ty.nat (j + 1)), (Ty.nat (j + 1))] ok16 ⟨?_, ?_, ?_, trivial⟩ ?_
       · intro A B E G H; exact rP (y_move (kp (H 9 rfl) E q55))
       · intro A B E G H d0; exact rP ((y_add (ed d0 rfl rfl rfl) rfl (w64 (by omega) (by omega))).mono (fun τ _ h => cvi (σ := τ) (by first | omega | exact (Int.natCast_mul _ _).symm) h))
       · intro A B E G H d0 d1 d2; exact rP (y_assign (ed d0 rfl rfl rfl))
       intro a19 s15 D15; have ok17 := D15.ok; have F17 := F16.step0 D15.stp; have q61 := D15.kt q56 rfl; have q62 := D15.kt q57 rfl; have q63 := D15.kt q58 rfl; have q64 := D15.kt q59 rfl; have q65 := D15.dn 2 rfl rfl; clear D15
       exact tn ⟨l.length - ((j + 1)), by omega, s15, (j + 1), (n + 1), s, rfl, F17, ok17, (cvi (by (first | rfl | omega | (simp_all; done) | (simp_all; omega))) q65), (cvi (by (first | rfl | omega | (simp_all; done) | (simp_all; omega))) q64), q61, q62, q63, prt_cont E (by omega) (by omega) (by omega), by omega, by omega, rfl⟩
      ·
       have hno : ¬ ((j + 1 < l.length ∧ l.getD (j + 1) 0 = l.getD j 0) ∧ n + 1 < 99) := (by simp only [Bool.and_eq_false_iff, decide_eq_false_iff_not] at c5; rintro ⟨⟨h1_, h2_⟩, h3_⟩; rcases c5 with (h_ | h_) | h_ <;> omega)
       refine wp_skip ?_; refine tn ?_; refine wp_seq ?_; refine wp_seq ?_
       refine rg a18 s14 [(Ty.nat (n + 1)), (Ty.bool (decide ((1 : Int) < (((n + 1) : Nat) : Int))))] ok16 ⟨?_, ?_, trivial⟩ ?_
       · intro A B E G H; exact rP (y_move (kp (H 8 rfl) E q59))
       · intro A B E G H d0; exact rP (y_gtr (ed d0 rfl rfl rfl) rfl)
       intro a20 s16 D16; have ok18 := D16.ok; have F18 := F16.step0 D16.stp; have q66 := D16.kt q55 rfl; have q67 := D16.kt q56 rfl; have q68 := D16.kt q57 rfl; have q69 := D16.kt q58 rfl; have q70 := D16.kt q59 rfl; have q71 := D16.dn 1 rfl rfl; clear D16; refine tn ?_
       refine cond_p (p := ((1 : Int) < (((n + 1) : Nat) : Int))) q71 (fun c6 => ?_) (fun c6 => ?_)
       ·
        refine rg a20 s16 [(Ty.val (Value.string s)), (Ty.nat (n + 1)), (Ty.val (Value.string (decB ((n + 1))))), (Ty.val (Value.string (s ++ (decB ((n + 1)))))), (Ty.val (Value.string (s ++ (decB ((n + 1))))))] ok18 ⟨?_, ?_, ?_, ?_, ?_, trivial⟩ ?_
        · intro A B E G H; exact rP (y_move (kp (H 7 rfl) E q67))
        · intro A B E G H; exact rP (y_move (kp (H 8 rfl) E q70))
        · intro A B E G H d0; exact rP (y_call #[A.eval (.tmp 70)] Tryd.func23 rfl rfl (by simp only [List.map_toArray, List.map_cons, List.map_nil]) (rDec_fn (((n + 1))) ((n + 1)) _ _ (cvi (σ := B) (by first | omega | rfl) (ed d0 rfl rfl rfl)) (by first | omega | rfl) (by first | omega | rfl)))
        · intro A B E G H d0 d1; exact rP (y_scat (ed d0 rfl rfl rfl) (ed d1 rfl rfl rfl) (by first | omega | (rw [ByteArray.size_append]; omega)))
        · intro A B E G H d0 d1 d2 d3 d4 d5; exact rP (y_assign (ed d0 rfl rfl rfl))
        intro a21 s17 D17; have ok19 := D17.ok; have F19 := F18.step0 D17.stp; have q72 := D17.kt q66 rfl; have q73 := D17.kt q68 rfl; have q74 := D17.kt q69 rfl; have q75 := D17.dn 4 rfl rfl; clear D17; refine tn ?_; refine wp_seq ?_
        refine rg a21 s17 [(Ty.val (Value.string (s ++ (decB ((n + 1)))))), (Ty.lstc 2 callC cs), (Ty.lst Ty.int l), (Ty.nat j), (Ty.ref [(Ty.int (l.getD j 0))]), (Ty.int (l.getD j 0)), (Ty.ref [(Ty.val (Value.int .i32 ((cs.getD ((l.getD j 0)).toNat D0)).1)), (Ty.lst Ty.ints ((cs.getD ((l.getD j 0)).toNat D0)).2)]), (Ty.ref [(Ty.val (Value.int .i32 ((cs.getD ((l.getD j 0)).toNat D0)).1)), (Ty.lst Ty.ints ((cs.getD ((l.getD j 0)).toNat D0)).2)]), (Ty.val (Value.int .i32 ((cs.getD ((l.getD j 0)).toNat D0)).1)), (Ty.val (Value.string (Utf8.encode ((cs.getD ((l.getD j 0)).toNat D0)).1))), (Ty.val (Value.string ((s ++ (decB ((n + 1)))) ++ (Utf8.encode ((cs.getD ((l.getD j 0)).toNat D0)).1)))), (Ty.val (Value.string ((s ++ (decB ((n + 1)))) ++ (Utf8.encode ((cs.getD ((l.getD j 0)).toNat D0)).1))))] ok19 ⟨?_, ?_, ?_, ?_, ?_, ?_, ?_, ?_, ?_, ?_, ?_, ?_, trivial⟩ ?_
        · intro A B E G H; exact rP (y_move (kp (H 7 rfl) E q75))
        · intro A B E G H; exact rP (y_move (kp (H 0 rfl) E q73))
        · intro A B E G H; exact rP (y_move (kp (H 1 rfl) E q74))
        · intro A B E G H; exact rP (y_move (kp (H 9 rfl) E q72))
        · intro A B E G H d0 d1; exact rP (y_index1 Tryd.underlying26 Tryd.inf3 (ed d0 rfl rfl rfl) (ed d1 rfl rfl rfl) (by omega) (lst_get Ty.int l 0 j (by omega)))
        · intro A B E G H d0; exact rP (y_load Tryd.underlying3 rfl (ed d0 rfl rfl rfl) rfl)
        · intro A B E G H d0 d1; exact rP (y_indexc (i := (l.getD j 0)) D0 Tryd.underlying25 Tryd.inf50 (ed d0 rfl rfl rfl) (ed d1 rfl rfl rfl) (by omega) (by omega) (by decide) (fun _ => rfl))
        · intro A B E G H d0; exact rP (y_field Tryd.fld50_0 Tryd.inf21 (by decide) (ed d0 rfl rfl rfl) rfl)
        · intro A B E G H d0; exact rP (y_load Tryd.underlying21 rfl (ed d0 rfl rfl rfl) rfl)
        · intro A B E G H d0; exact rP (y_convrs Tryd.underlying9 (ed d0 rfl rfl rfl) (by rw [Tryd.underlying21]; rfl))
        · intro A B E G H d0 d1; exact rP (y_scat (ed d0 rfl rfl rfl) (ed d1 rfl rfl rfl) (by first | omega | (rw [ByteArray.size_append]; omega)))
        · intro A B E G H d0 d1 d2 d3 d4 d5 d6 d7 d8 d9 d10 d11; exact rP (y_assign (ed d0 rfl rfl rfl))
        intro a22 s18 D18; have ok20 := D18.ok; have F20 := F19.step0 D18.stp; have q76 := D18.kt q72 rfl; have q77 := D18.kt q73 rfl; have q78 := D18.kt q74 rfl; have q79 := D18.dn 11 rfl rfl; clear D18; refine tn ?_
        refine rg a22 s18 [(Ty.int (0 : Int))] ok20 ⟨?_, trivial⟩ ?_
        · intro A B E G H; exact rP (y_assign rfl)
        intro a23 s19 D19; have ok21 := D19.ok; have F21 := F20.step0 D19.stp; have q80 := D19.kt q76 rfl; have q81 := D19.kt q77 rfl; have q82 := D19.kt q78 rfl; have q83 := D19.kt q79 rfl; have q84 := D19.dn 0 rfl rfl; clear D19; refine bn ?_; refine tn ?_
        refine rg a23 s19 [(Ty.nat j), (Ty.nat (j + 1)), (Ty.nat (j + 1))] ok21 ⟨?_, ?_, ?_, trivial⟩ ?_
        · intro A B E G H; exact rP (y_move (kp (H 9 rfl) E q80))
        · intro A B E G H d0; exact rP ((y_add (ed d0 rfl rfl rfl) rfl (w64 (by omega) (by omega))).mono (fun τ _ h => cvi (σ := τ) (by first | omega | exact (Int.natCast_mul _ _).symm) h))
        · intro A B E G H d0 d1 d2; exact rP (y_assign (ed d0 rfl rfl rfl))
        intro a24 s20 D20; have ok22 := D20.ok; have F22 := F21.step0 D20.stp; have q85 := D20.kt q81 rfl; have q86 := D20.kt q82 rfl; have q87 := D20.kt q83 rfl; have q88 := D20.kt q84 rfl; have q89 := D20.dn 2 rfl rfl; clear D20
        exact tn ⟨l.length - ((j + 1)), by omega, s20, (j + 1), 0, ((s ++ decB (n + 1)) ++ (Utf8.encode (cs.getD (l.getD j 0).toNat D0).1)), rfl, F22, ok22, (cvi (by (first | rfl | omega | (simp_all; done) | (simp_all; omega))) q89), (cvi (by (first | rfl | omega | (simp_all; done) | (simp_all; omega))) q88), (cvt (by (first | rfl | omega | (simp_all; done) | (simp_all; omega))) q87), q85, q86, prt_put1 E (by omega) hno (by omega), by omega, by omega, rfl⟩
       ·
        refine wp_skip ?_; refine tn ?_; refine wp_seq ?_
        refine rg a20 s16 [(Ty.val (Value.string s)), (Ty.lstc 2 callC cs), (Ty.lst Ty.int l), (Ty.nat j), (Ty.ref [(Ty.int (l.getD j 0))]), (Ty.int (l.getD j 0)), (Ty.ref [(Ty.val (Value.int .i32 ((cs.getD ((l.getD j 0)).toNat D0)).1)), (Ty.lst Ty.ints ((cs.getD ((l.getD j 0)).toNat D0)).2)]), (Ty.ref [(Ty.val (Value.int .i32 ((cs.getD ((l.getD j 0)).toNat D0)).1)), (Ty.lst Ty.ints ((cs.getD ((l.getD j 0)).toNat D0)).2)]), (Ty.val (Value.int .i32 ((cs.getD ((l.getD j 0)).toNat D0)).1)), (Ty.val (Value.string (Utf8.encode ((cs.getD ((l.getD j 0)).toNat D0)).1))), (Ty.val (Value.string (s ++ (Utf8.encode ((cs.getD ((l.getD j 0)).toNat D0)).1)))), (Ty.val (Value.string (s ++ (Utf8.encode ((cs.getD ((l.getD j 0)).toNat D0)).1))))] ok18 ⟨?_, ?_, ?_, ?_, ?_, ?_, ?_, ?_, ?_, ?_, ?_, ?_, trivial⟩ ?_
        · intro A B E G H; exact rP (y_move (kp (H 7 rfl) E q67))
        · intro A B E G H; exact rP (y_move (kp (H 0 rfl) E q68))
        · intro A B E G H; exact rP (y_move (kp (H 1 rfl) E q69))
        · intro A B E G H; exact rP (y_move (kp (H 9 rfl) E q66))
        · intro A B E G H d0 d1; exact rP (y_index1 Tryd.underlying26 Tryd.inf3 (ed d0 rfl rfl rfl) (ed d1 rfl rfl rfl) (by omega) (lst_get Ty.int l 0 j (by omega)))
        · intro A B E G H d0; exact rP (y_load Tryd.underlying3 rfl (ed d0 rfl rfl rfl) rfl)
        · intro A B E G H d0 d1; exact rP (y_indexc (i := (l.getD j 0)) D0 Tryd.underlying25 Tryd.inf50 (ed d0 rfl rfl rfl) (ed d1 rfl rfl rfl) (by omega) (by omega) (by decide) (fun _ => rfl))
        · intro A B E G H d0; exact rP (y_field Tryd.fld50_0 Tryd.inf21 (by decide) (ed d0 rfl rfl rfl) rfl)
        · intro A B E G H d0; exact rP (y_load Tryd.underlying21 rfl (ed d0 rfl rfl rfl) rfl)
        · intro A B E G H d0; exact rP (y_convrs Tryd.underlying9 (ed d0 rfl rfl rfl) (by rw [Tryd.underlying21]; rfl))
        · intro A B E G H d0 d1; exact rP (y_scat (ed d0 rfl rfl rfl) (ed d1 rfl rfl rfl) (by first | omega | (rw [ByteArray.size_append]; omega)))
        · intro A B E G H d0 d1 d2 d3 d4 d5 d6 d7 d8 d9 d10 d11; exact rP (y_assign (ed d0 rfl rfl rfl))
        intro a25 s21 D21; have ok23 := D21.ok; have F23 := F18.step0 D21.stp; have q90 := D21.kt q66 rfl; have q91 := D21.kt q68 rfl; have q92 := D21.kt q69 rfl; have q93 := D21.dn 11 rfl rfl; clear D21; refine tn ?_
        refine rg a25 s21 [(Ty.int (0 : Int))] ok23 ⟨?_, trivial⟩ ?_
        · intro A B E G H; exact rP (y_assign rfl)
        intro a26 s22 D22; have ok24 := D22.ok; have F24 := F23.step0 D22.stp; have q94 := D22.kt q90 rfl; have q95 := D22.kt q91 rfl; have q96 := D22.kt q92 rfl; have q97 := D22.kt q93 rfl; have q98 := D22.dn 0 rfl rfl; clear D22; refine bn ?_; refine tn ?_
        refine rg a26 s22 [(Ty.nat j), (Ty.nat (j + 1)), (Ty.nat (j + 1))] ok24 ⟨?_, ?_, ?_, trivial⟩ ?_
        · intro A B E G H; exact rP (y_move (kp (H 9 rfl) E q94))
        · intro A B E G H d0; exact rP ((y_add (ed d0 rfl rfl rfl) rfl (w64 (by omega) (by omega))).mono (fun τ _ h => cvi (σ := τ) (by first | omega | exact (Int.natCast_mul _ _).symm) h))
        · intro A B E G H d0 d1 d2; exact rP (y_assign (ed d0 rfl rfl rfl))
        intro a27 s23 D23; have ok25 := D23.ok; have F25 := F24.step0 D23.stp; have q99 := D23.kt q95 rfl; have q100 := D23.kt q96 rfl; have q101 := D23.kt q97 rfl; have q102 := D23.kt q98 rfl; have q103 := D23.dn 2 rfl rfl; clear D23
        exact tn ⟨l.length - ((j + 1)), by omega, s23, (j + 1), 0, (s ++ (Utf8.encode (cs.getD (l.getD j 0).toNat D0).1)), rfl, F25, ok25, (cvi (by (first | rfl | omega | (simp_all; done) | (simp_all; omega))) q103), (cvi (by (first | rfl | omega | (simp_all; done) | (simp_all; omega))) q102), (cvt (by (first | rfl | omega | (simp_all; done) | (simp_all; omega))) q101), q99, q100, prt_put0 E (by omega) hno (by omega), by omega, by omega, rfl⟩
     ·
      have hfin := prt_end E (by omega)
      refine wp_exit ?_; refine tx ?_; refine tx ?_; refine bx ?_; refine tn ?_; refine wp_seq ?_
      refine rg a16 s12 [(Ty.val (Value.string s)), (Ty.val (Value.string s)), (Ty.int (0 : Int))] ok14 ⟨?_, ?_, ?_, trivial⟩ ?_
      · intro A B E G H; exact rP (y_move (kp (H 7 rfl) E q46))
      · intro A B E G H d0 d1; exact rP (y_assign (ed d0 rfl rfl rfl))
      · intro A B E G H d0 d1 d2; exact rP (y_assign rfl)
      intro a28 s24 D24; have ok26 := D24.ok; have F26 := F14.step0 D24.stp; have q104 := D24.dn 1 rfl rfl; have q105 := D24.dn 2 rfl rfl; clear D24; refine tn ?_; refine wp_ret ?_
      exact retL2 rfl ok26 F26 (hasT2 (cvt (by (rw [(pt_good hcc hin2).2, ← hT, hfin])) q104) (cvi (by (exact (pt_good hcc hin2).1.symm)) q105))


set_option maxHeartbeats 4000000 in
set_option maxRecDepth 100000 in
theorem rTouchMay_fn (nm : ByteArray) (n : Int) (l : List (List Int)) (cs : List BCall) (leads : List Int) (σ : GW)  (v0 v1 v2 : Value) (hv0 : Ty.has (Ty.agg [(Ty.val (Value.string nm)), (Ty.int n), (Ty.lst Ty.ints l)]) σ v0) (hv1 : Ty.has (Ty.lstc 2 callC cs) σ v1) (hv2 : Ty.has (Ty.lst Ty.int leads) σ v2)  (hnm : nm.size ≤ 1099511627776) (hn : -9223372036854775808 ≤ n ∧ n ≤ 9223372036854775807) :
    FnC Tryd.prog 12 #[v0, v1, v2] σ (Ty.int (touchMay nm n l cs leads)) := by
 refine fn_intro0 Tryd.func12 rfl Tryd.ntmps12 (Nat.le_of_ble_eq_true rfl) (fun s0 a0 hle F0 ok0 hargs => ?_)
 have p0 : At (Ty.agg [(Ty.val (Value.string nm)), (Ty.int n), (Ty.lst Ty.ints l)]) s0 a0 (.tmp 0) := by have e := hargs 0 _ rfl; show Ty.has _ _ _; rw [e]; exact Ty.up _ hle hv0
 have p1 : At (Ty.lstc 2 callC cs) s0 a0 (.tmp 1) := by have e := hargs 1 _ rfl; show Ty.has _ _ _; rw [e]; exact Ty.up _ hle hv1
 have b1 := sl_le p1
 have p2 : At (Ty.lst Ty.int leads) s0 a0 (.tmp 2) := by have e := hargs 2 _ rfl; show Ty.has _ _ _; rw [e]; exact Ty.up _ hle hv2
 have b2 := sl_le p2
 clear hargs; refine wp_seq ?_
 refine rg a0 s0 [(Ty.ref [(Ty.val (Value.string nm)), (Ty.int n), (Ty.lst Ty.ints l)]), (Ty.int (0 : Int))] ok0 ⟨?_, ?_, trivial⟩ ?_
 · intro A B E G H; exact rP (y_boxagg (kp (H 0 rfl) E p0))
 · intro A B E G H; exact rP (y_assign rfl)
 intro a1 s1 D1; have ok1 := D1.ok; have F1 := F0.step0 D1.stp; have q1 := D1.kt p1 rfl; have q2 := D1.kt p2 rfl; have q3 := D1.dn 0 rfl rfl; clear D1; refine tn ?_; refine wp_seq ?_
 refine rg a1 s1 [(Ty.agg [(Ty.val (Value.string nm)), (Ty.int n), (Ty.lst Ty.ints l)]), (Ty.lstc 2 callC cs), (Ty.int (callsMay nm n l cs)), (Ty.int (callsMay nm n l cs))] ok1 ⟨?_, ?_, ?_, ?_, trivial⟩ ?_
 · intro A B E G H; exact rP (y_loadagg Tryd.underlying24 Tryd.inf24 (kp (H 3 rfl) E q3))
 · intro A B E G H; exact rP (y_move (kp (H 1 rfl) E q1))
 · intro A B E G H d0 d1; exact rP (y_call #[A.eval (.tmp 9), A.eval (.tmp 10)] Tryd.func9 rfl rfl (by simp only [List.map_toArray, List.map_cons, List.map_nil]) (rCallsMay_fn (nm) (n) (l) (cs) _ _ _ (ed d0 rfl rfl rfl) (ed d1 rfl rfl rfl) (by first | omega | assumption) (by first | omega | assumption)))
 · intro A B E G H d0 d1 d2 d3 d4; exact rP (y_assign (ed d0 rfl rfl rfl))
 intro a2 s2 D2; have ok2 := D2.ok; have F2 := F1.step0 D2.stp; have q4 := D2.kt q1 rfl; have q5 := D2.kt q2 rfl; have q6 := D2.kt q3 rfl; have q7 := D2.dn 3 rfl rfl; clear D2; refine tn ?_; refine wp_seq ?_; refine wp_seq ?_
 refine rg a2 s2 [(Ty.int (callsMay nm n l cs)), (Ty.bool (decide ((callsMay nm n l cs) ≠ (0 : Int))))] ok2 ⟨?_, ?_, trivial⟩ ?_
 · intro A B E G H; exact rP (y_move (kp (H 7 rfl) E q7))
 · intro A B E G H d0; exact rP (y_neq (ed d0 rfl rfl rfl) rfl)
 intro a3 s3 D3; have ok3 := D3.ok; have F3 := F2.step0 D3.stp; have q8 := D3.kt q4 rfl; have q9 := D3.kt q5 rfl; have q10 := D3.kt q6 rfl; have q11 := D3.kt q7 rfl; have q12 := D3.dn 1 rfl rfl; clear D3; refine tn ?_
 refine cond_p (p := ((callsMay nm n l cs) ≠ (0 : Int))) q12 (fun c1 => ?_) (fun c1 => ?_)
 ·
  have hm := touchMay_calls (leads := leads) c1
  refine wp_seq ?_
  refine rg a3 s3 [(Ty.int (callsMay nm n l cs)), (Ty.int (callsMay nm n l cs))] ok3 ⟨?_, ?_, trivial⟩ ?_
  · intro A B E G H; exact rP (y_move (kp (H 7 rfl) E q11))
  · intro A B E G H d0 d1; exact rP (y_assign (ed d0 rfl rfl rfl))
  intro a4 s4 D4; have ok4 := D4.ok; have F4 := F3.step0 D4.stp; have q13 := D4.dn 1 rfl rfl; clear D4; refine tn ?_; refine wp_ret ?_; refine tr ?_
  exact retL1 rfl ok4 F4 (cvi (by (exact hm.symm)) q13)
 ·
  have h0 := Classical.not_not.1 c1; have hl2 := (callsMay_ok h0).1.meth.l2
  refine wp_skip ?_; refine tn ?_; refine wp_seq ?_; refine wp_seq ?_
  refine rg a3 s3 [(Ty.lst Ty.int leads), (Ty.nat (List.length leads)), (Ty.bool (decide ((((List.length leads) : Nat) : Int) < (1 : Int)))), (Ty.bool (decide ((((List.length leads) : Nat) : Int) < (1 : Int)))), (Ty.grd ((decide ((((List.length leads) : Nat) : Int) < (1 : Int))) = false) (Ty.lst Ty.int leads)), (Ty.grd ((decide ((((List.length leads) : Nat) : Int) < (1 : Int))) = false) (Ty.nat (List.length leads))), (Ty.grd ((decide ((((List.length leads) : Nat) : Int) < (1 : Int))) = false) (Ty.bool (decide ((400 : Int) < (((List.length leads) : Nat) : Int))))), (Ty.bool ((decide ((((List.length leads) : Nat) : Int) < (1 : Int))) || (decide ((400 : Int) < (((List.length leads) : Nat) : Int)))))] ok3 ⟨?_, ?_, ?_, ?_, ?_, ?_, ?_, ?_, trivial⟩ ?_
  · intro A B E G H; exact rP (y_move (kp (H 2 rfl) E q9))
  · intro A B E G H d0; exact rP (y_len Tryd.underlying26 (ed d0 rfl rfl rfl))
  · intro A B E G H d0; exact rP (y_lss (ed d0 rfl rfl rfl) rfl)
  · intro A B E G H d0; exact rP (y_move (ed d0 rfl rfl rfl))
  · intro A B E G H d0
    refine run_guard G rfl rfl (by decide) (ed d0 rfl rfl rfl) (fun hg => ?_)
    have hp := of_decide_eq_false hg
    exact y_move (kp (H 2 rfl) E q9)
  · intro A B E G H d0 d1
    refine run_guard G rfl rfl (by decide) (ed d1 rfl rfl rfl) (fun hg => ?_)
    have hp := of_decide_eq_false hg
    exact y_len Tryd.underlying26 ((ed d0 rfl rfl rfl).1 hg)
  · intro A B E G H d0 d1
    refine run_guard G rfl rfl (by decide) (ed d1 rfl rfl rfl) (fun hg => ?_)
    have hp := of_decide_eq_false hg
    exact y_gtr ((ed d0 rfl rfl rfl).1 hg) rfl
  · intro A B E G H d0 d1; exact rP (y_pick_or (ed d0 rfl rfl rfl) rfl (ed d1 rfl rfl rfl))
  intro a5 s5 D5; have ok5 := D5.ok; have F5 := F3.step0 D5.stp; have q14 := D5.kt q8 rfl; have q15 := D5.kt q9 rfl; have q16 := D5.kt q10 rfl; have q17 := D5.dn 7 rfl rfl; clear D5; refine tn ?_
  refine cond_t q17 (fun c2 => ?_) (fun c2 => ?_)
  ·
   simp only [Bool.or_eq_true, decide_eq_true_eq] at c2; have hm := touchMay_cnt h0 (leads := leads) (by omega)
   refine wp_seq ?_
   refine rg a5 s5 [(Ty.int (1 : Int))] ok5 ⟨?_, trivial⟩ ?_
   · intro A B E G H; exact rP (y_assign rfl)
   intro a6 s6 D6; have ok6 := D6.ok; have F6 := F5.step0 D6.stp; have q18 := D6.dn 0 rfl rfl; clear D6; refine tn ?_; refine wp_ret ?_; refine tr ?_
   exact retL1 rfl ok6 F6 (cvi (by (exact hm.symm)) q18)
  ·
   obtain ⟨d1, d2⟩ := Bool.or_eq_false_iff.mp c2
   replace d1 := of_decide_eq_false d1
   replace d2 := of_decide_eq_false d2
   have hx2 : ¬ (leads.length < 1 ∨ 400 < leads.length) := (by simp only [Bool.or_eq_false_iff, decide_eq_false_iff_not] at c2; omega); have hmb : leads.length * l.length ≤ 400 * 200 := Nat.mul_le_mul (by omega) hl2; have hmc : ((leads.length : Nat) : Int) * ((l.length : Nat) : Int) = ((leads.length * l.length : Nat) : Int) := (Int.natCast_mul _ _).symm
   refine wp_skip ?_; refine tn ?_; refine wp_seq ?_; refine wp_seq ?_
   refine rg a5 s5 [(Ty.int (0 : Int))] ok5 ⟨?_, trivial⟩ ?_
   · intro A B E G H; exact rP (y_assign rfl)
   intro a7 s7 D7; have ok7 := D7.ok; have F7 := F5.step0 D7.stp; have q19 := D7.kt q14 rfl; have q20 := D7.kt q15 rfl; have q21 := D7.kt q16 rfl; have q22 := D7.dn 0 rfl rfl; clear D7; refine tn ?_; refine wp_block ?_
   refine loop (fun n1 a8 w1 => ∃ (t1 : GW) (k : Nat), t1.w = w1 ∧ FromL [] s0 t1 ∧ Ok 50 a8 ∧ At (Ty.nat k) t1 a8 (.tmp 8) ∧ At (Ty.lstc 2 callC cs) t1 a8 (.tmp 1) ∧ At (Ty.lst Ty.int leads) t1 a8 (.tmp 2) ∧ At (Ty.ref [(Ty.val (Value.string nm)), (Ty.int n), (Ty.lst Ty.ints l)]) t1 a8 (.tmp 3) ∧ (k ≤ leads.length) ∧ (∀ j, j < k → 0 ≤ leads.getD j 0 ∧ leads.getD j 0 < cs.length) ∧ n1 = leads.length - k) (leads.length - (0)) ?_ ?_
   ·
    exact ⟨s7, 0, rfl, F7, ok7, (cvi (by (first | rfl | omega | (simp_all; done) | (simp_all; omega))) q22), q19, q20, q21, by omega, fun j hj => absurd hj (Nat.not_lt_zero j), rfl⟩
   ·
    rintro n2 a9 w2 ⟨t2, k, rfl, F8, ok8, q23, q24, q25, q26, hk, hin, rfl⟩
    refine wp_seq ?_; refine wp_seq ?_
    refine reg (a := a9) (σ := t2) rfl (fun i_ => List.getD [(Ty.pr (Ty.nat k)), (Ty.pr (Ty.lst Ty.int leads)), (Ty.pr (Ty.nat (List.length leads))), (Ty.pr (Ty.bool (decide (((k : Nat) : Int) < (((List.length leads) : Nat) : Int)))))] i_ Pr.any) ok8 rfl ⟨?_, ?_, ?_, ?_, trivial⟩ ?_
    · intro A B E G H; exact rP (y_move (kp (H 8 rfl) E q23))
    · intro A B E G H; exact rP (y_move (kp (H 2 rfl) E q25))
    · intro A B E G H d0; exact rP (y_len Tryd.underlying26 (ed d0 rfl rfl rfl))
    · intro A B E G H d0 d1; exact rP (y_lss (ed d0 rfl rfl rfl) (ed d1 rfl rfl rfl))
    intro a10 s8 D8; have ok9 := D8.ok; have F9 := F8.step0 D8.stp; have q27 := D8.kt q23 rfl; have q28 := D8.kt q24 rfl; have q29 := D8.kt q25 rfl; have q30 := D8.kt q26 rfl; have q31 := D8.dn 3 rfl rfl; clear D8; refine tn ?_
    refine cond_p (p := (((k : Nat) : Int) < (((List.length leads) : Nat) : Int))) q31 (fun c3 => ?_) (fun c3 => ?_)
    ·
     refine wp_skip ?_; refine tn ?_; refine wp_seq ?_; refine wp_block ?_; refine wp_seq ?_
     refine rg a10 s8 [(Ty.lst Ty.int leads), (Ty.nat k), (Ty.ref [(Ty.int (leads.getD k 0))]), (Ty.int (leads.getD k 0)), (Ty.bool (decide ((leads.getD k 0) < (0 : Int)))), (Ty.bool (decide ((leads.getD k 0) < (0 : Int)))), (Ty.grd ((decide ((leads.getD k 0) < (0 : Int))) = false) (Ty.lst Ty.int leads)), (Ty.grd ((decide ((leads.getD k 0) < (0 : Int))) = false) (Ty.nat k)), (Ty.grd ((decide ((leads.getD k 0) < (0 : Int))) = false) (Ty.ref [(Ty.int (leads.getD k 0))])), (Ty.grd ((decide ((leads.getD k 0) < (0 : Int))) = false) (Ty.int (leads.getD k 0))), (Ty.grd ((decide ((leads.getD k 0) < (0 : Int))) = false) (Ty.lstc 2 callC cs)), (Ty.grd ((decide ((leads.getD k 0) < (0 : Int))) = false) (Ty.nat (List.length cs))), (Ty.grd ((decide ((leads.getD k 0) < (0 : Int))) = false) (Ty.bool (decide ((((List.length cs) : Nat) : Int) ≤ (leads.getD k 0))))), (Ty.bool ((decide ((leads.getD k 0) < (0 : Int))) || (decide ((((List.length cs) : Nat) : Int) ≤ (leads.getD k 0)))))] ok9 ⟨?_, ?_, ?_, ?_, ?_, ?_, ?_, ?_, ?_, ?_, ?_, ?_, ?_, ?_, trivial⟩ ?_
     · intro A B E G H; exact rP (y_move (kp (H 2 rfl) E q29))
     · intro A B E G H; exact rP (y_move (kp (H 8 rfl) E q27))
     · intro A B E G H d0 d1; exact rP (y_index1 Tryd.underlying26 Tryd.inf3 (ed d0 rfl rfl rfl) (ed d1 rfl rfl rfl) (by omega) (lst_get Ty.int leads 0 k (by omega)))
     · intro A B E G H d0; exact rP (y_load Tryd.underlying3 rfl (ed d0 rfl rfl rfl) rfl)
     · intro A B E G H d0; exact rP (y_lss (ed d0 rfl rfl rfl) rfl)
     · intro A B E G H d0; exact rP (y_move (ed d0 rfl rfl rfl))
     · intro A B E G H d0
       refine run_guard G rfl rfl (by decide) (ed d0 rfl rfl rfl) (fun hg => ?_)
       have hp := of_decide_eq_false hg
       exact y_move (kp (H 2 rfl) E q29)
     · intro A B E G H d0
       refine run_guard G rfl rfl (by decide) (ed d0 rfl rfl rfl) (fun hg => ?_)
       have hp := of_decide_eq_false hg
       exact y_move (kp (H 8 rfl) E q27)
     · intro A B E G H d0 d1 d2
       refine run_guard G rfl rfl (by decide) (ed d2 rfl rfl rfl) (fun hg => ?_)
       have hp := of_decide_eq_false hg
       exact y_index1 Tryd.underlying26 Tryd.inf3 ((ed d0 rfl rfl rfl).1 hg) ((ed d1 rfl rfl rfl).1 hg) (by omega) (lst_get Ty.int leads 0 k (by omega))
     · intro A B E G H d0 d1
       refine run_guard G rfl rfl (by decide) (ed d1 rfl rfl rfl) (fun hg => ?_)
       have hp := of_decide_eq_false hg
       exact y_load Tryd.underlying3 rfl ((ed d0 rfl rfl rfl).1 hg) rfl
     · intro A B E G H d0
       refine run_guard G rfl rfl (by decide) (ed d0 rfl rfl rfl) (fun hg => ?_)
       have hp := of_decide_eq_false hg
       exact y_move (kp (H 1 rfl) E q28)
     · intro A B E G H d0 d1
       refine run_guard G rfl rfl (by decide) (ed d1 rfl rfl rfl) (fun hg => ?_)
       have hp := of_decide_eq_false hg
       exact y_len Tryd.underlying25 ((ed d0 rfl rfl rfl).1 hg)
     · intro A B E G H d0 d1 d2
       refine run_guard G rfl rfl (by decide) (ed d2 rfl rfl rfl) (fun hg => ?_)
       have hp := of_decide_eq_false hg
       exact y_geq ((ed d0 rfl rfl rfl).1 hg) ((ed d1 rfl rfl rfl).1 hg)
     · intro A B E G H d0 d1; exact rP (y_pick_or (ed d0 rfl rfl rfl) rfl (ed d1 rfl rfl rfl))
     intro a11 s9 D9; have ok10 := D9.ok; have F10 := F9.step0 D9.stp; have q32 := D9.kt q27 rfl; have q33 := D9.kt q28 rfl; have q34 := D9.kt q29 rfl; have q35 := D9.kt q30 rfl; have q36 := D9.dn 13 rfl rfl; clear D9; refine tn ?_
     refine cond_t q36 (fun c4 => ?_) (fun c4 => ?_)
     ·
      simp only [Bool.or_eq_true, decide_eq_true_eq] at c4; have hm := touchMay_val h0 hx2 (k := k) (by omega) (by omega)
      refine wp_seq ?_
      refine rg a11 s9 [(Ty.int (12 : Int))] ok10 ⟨?_, trivial⟩ ?_
      · intro A B E G H; exact rP (y_assign rfl)
      intro a12 s10 D10; have ok11 := D10.ok; have F11 := F10.step0 D10.stp; have q37 := D10.dn 0 rfl rfl; clear D10; refine tn ?_; refine wp_ret ?_; refine br ?_; refine tr ?_; refine tr ?_; refine br ?_; refine tr ?_
      exact retL1 rfl ok11 F11 (cvi (by (exact hm.symm)) q37)
     ·
      obtain ⟨d3, d4⟩ := Bool.or_eq_false_iff.mp c4
      replace d3 := of_decide_eq_false d3
      replace d4 := of_decide_eq_false d4
      refine wp_skip ?_; refine bn ?_; refine tn ?_
      refine rg a11 s9 [(Ty.nat k), (Ty.nat (k + 1)), (Ty.nat (k + 1))] ok10 ⟨?_, ?_, ?_, trivial⟩ ?_
      · intro A B E G H; exact rP (y_move (kp (H 8 rfl) E q32))
      · intro A B E G H d0; exact rP ((y_add (ed d0 rfl rfl rfl) rfl (w64 (by omega) (by omega))).mono (fun τ _ h => cvi (σ := τ) (by first | omega | exact (Int.natCast_mul _ _).symm) h))
      · intro A B E G H d0 d1 d2; exact rP (y_assign (ed d0 rfl rfl rfl))
      intro a13 s11 D11; have ok12 := D11.ok; have F12 := F10.step0 D11.stp; have q38 := D11.kt q33 rfl; have q39 := D11.kt q34 rfl; have q40 := D11.kt q35 rfl; have q41 := D11.dn 2 rfl rfl; clear D11
      exact tn ⟨leads.length - ((k+1)), by omega, s11, (k+1), rfl, F12, ok12, (cvi (by (first | rfl | omega | (simp_all; done) | (simp_all; omega))) q41), q38, q39, q40, by omega, fun j hj => by (by_cases e : j = k; subst e; simp only [Bool.or_eq_false_iff, decide_eq_false_iff_not] at c4; omega; exact hin j (by omega)), rfl⟩
    ·
     have hin2 : ∀ j, j < leads.length → 0 ≤ leads.getD j 0 ∧ leads.getD j 0 < cs.length := fun j hj => hin j (by omega)
     refine wp_exit ?_; refine tx ?_; refine tx ?_; refine bx ?_; refine tn ?_; refine wp_seq ?_; refine wp_seq ?_
     refine rg a10 s8 [(Ty.lst Ty.int leads), (Ty.nat (List.length leads)), (Ty.ref [(Ty.lst Ty.ints l)]), (Ty.lst Ty.ints l), (Ty.nat (List.length l)), (Ty.nat ((List.length leads) * (List.length l))), (Ty.bool (decide ((20000 : Int) < ((((List.length leads) * (List.length l)) : Nat) : Int))))] ok9 ⟨?_, ?_, ?_, ?_, ?_, ?_, ?_, trivial⟩ ?_
     · intro A B E G H; exact rP (y_move (kp (H 2 rfl) E q29))
     · intro A B E G H d0; exact rP (y_len Tryd.underlying26 (ed d0 rfl rfl rfl))
     · intro A B E G H; exact rP (y_field Tryd.fld24_2 Tryd.inf22 (by decide) (kp (H 3 rfl) E q30) rfl)
     · intro A B E G H d0; exact rP (y_load Tryd.underlying22 rfl (ed d0 rfl rfl rfl) rfl)
     · intro A B E G H d0; exact rP (y_len Tryd.underlying22 (ed d0 rfl rfl rfl))
     · intro A B E G H d0 d1; exact rP ((y_mul (ed d0 rfl rfl rfl) (ed d1 rfl rfl rfl) (w64 (by omega) (by omega))).mono (fun τ _ h => cvi (σ := τ) (by first | omega | exact (Int.natCast_mul _ _).symm) h))
     · intro A B E G H d0; exact rP (y_gtr (ed d0 rfl rfl rfl) rfl)
     intro a14 s12 D12; have ok13 := D12.ok; have F13 := F9.step0 D12.stp; have q42 := D12.dn 6 rfl rfl; clear D12; refine tn ?_
     refine cond_p (p := ((20000 : Int) < ((((List.length leads) * (List.length l)) : Nat) : Int))) q42 (fun c5 => ?_) (fun c5 => ?_)
     ·
      have hm := touchMay_lim h0 hx2 hin2 (by omega)
      refine wp_seq ?_
      refine rg a14 s12 [(Ty.int (3 : Int))] ok13 ⟨?_, trivial⟩ ?_
      · intro A B E G H; exact rP (y_assign rfl)
      intro a15 s13 D13; have ok14 := D13.ok; have F14 := F13.step0 D13.stp; have q43 := D13.dn 0 rfl rfl; clear D13; refine tn ?_; refine wp_ret ?_; refine tr ?_
      exact retL1 rfl ok14 F14 (cvi (by (exact hm.symm)) q43)
     ·
      have hm := touchMay_yes h0 hx2 hin2 (by omega)
      refine wp_skip ?_; refine tn ?_; refine wp_seq ?_
      refine rg a14 s12 [(Ty.int (0 : Int))] ok13 ⟨?_, trivial⟩ ?_
      · intro A B E G H; exact rP (y_assign rfl)
      intro a16 s14 D14; have ok15 := D14.ok; have F15 := F13.step0 D14.stp; have q44 := D14.dn 0 rfl rfl; clear D14; refine tn ?_; refine wp_ret ?_
      exact retL1 rfl ok15 F15 (cvi (by (exact hm.symm)) q44)


set_option maxHeartbeats 4000000 in
set_option maxRecDepth 100000 in
theorem callMay_fn (nm : ByteArray) (n : Int) (l : List (List Int)) (cs : List BCall) (leads : List Int) (σ : GW)  (v0 v1 v2 : Value) (hv0 : Ty.has (Ty.agg [(Ty.val (Value.string nm)), (Ty.int n), (Ty.lst Ty.ints l)]) σ v0) (hv1 : Ty.has (Ty.lstc 2 callC cs) σ v1) (hv2 : Ty.has (Ty.lst Ty.int leads) σ v2)  (hnm : nm.size ≤ 1099511627776) (hn : -9223372036854775808 ≤ n ∧ n ≤ 9223372036854775807) :
    FnC Tryd.prog 14 #[v0, v1, v2] σ (Ty.int (touchMay nm n l cs leads)) := by
 refine fn_intro0 Tryd.func14 rfl Tryd.ntmps14 (Nat.le_of_ble_eq_true rfl) (fun s0 a0 hle F0 ok0 hargs => ?_)
 have p0 : At (Ty.agg [(Ty.val (Value.string nm)), (Ty.int n), (Ty.lst Ty.ints l)]) s0 a0 (.tmp 0) := by have e := hargs 0 _ rfl; show Ty.has _ _ _; rw [e]; exact Ty.up _ hle hv0
 have p1 : At (Ty.lstc 2 callC cs) s0 a0 (.tmp 1) := by have e := hargs 1 _ rfl; show Ty.has _ _ _; rw [e]; exact Ty.up _ hle hv1
 have b1 := sl_le p1
 have p2 : At (Ty.lst Ty.int leads) s0 a0 (.tmp 2) := by have e := hargs 2 _ rfl; show Ty.has _ _ _; rw [e]; exact Ty.up _ hle hv2
 have b2 := sl_le p2
 clear hargs; refine wp_seq ?_
 refine rg a0 s0 [(Ty.ref [(Ty.val (Value.string nm)), (Ty.int n), (Ty.lst Ty.ints l)]), (Ty.int (0 : Int))] ok0 ⟨?_, ?_, trivial⟩ ?_
 · intro A B E G H; exact rP (y_boxagg (kp (H 0 rfl) E p0))
 · intro A B E G H; exact rP (y_assign rfl)
 intro a1 s1 D1; have ok1 := D1.ok; have F1 := F0.step0 D1.stp; have q1 := D1.kt p1 rfl; have q2 := D1.kt p2 rfl; have q3 := D1.dn 0 rfl rfl; clear D1; refine tn ?_; refine wp_seq ?_; refine wp_seq ?_
 refine rg a1 s1 [(Ty.agg [(Ty.val (Value.string nm)), (Ty.int n), (Ty.lst Ty.ints l)]), (Ty.lstc 2 callC cs), (Ty.int (callsMay nm n l cs)), (Ty.int (callsMay nm n l cs))] ok1 ⟨?_, ?_, ?_, ?_, trivial⟩ ?_
 · intro A B E G H; exact rP (y_loadagg Tryd.underlying24 Tryd.inf24 (kp (H 3 rfl) E q3))
 · intro A B E G H; exact rP (y_move (kp (H 1 rfl) E q1))
 · intro A B E G H d0 d1; exact rP (y_call #[A.eval (.tmp 10), A.eval (.tmp 11)] Tryd.func8 rfl rfl (by simp only [List.map_toArray, List.map_cons, List.map_nil]) (callCheck_fn (nm) (n) (l) (cs) _ _ _ (ed d0 rfl rfl rfl) (ed d1 rfl rfl rfl) (by first | omega | assumption) (by first | omega | assumption)))
 · intro A B E G H d0 d1 d2 d3 d4; exact rP (y_assign (ed d0 rfl rfl rfl))
 intro a2 s2 D2; have ok2 := D2.ok; have F2 := F1.step0 D2.stp; have q4 := D2.kt q1 rfl; have q5 := D2.kt q2 rfl; have q6 := D2.kt q3 rfl; have q7 := D2.dn 3 rfl rfl; clear D2; refine tn ?_; refine wp_seq ?_
 refine rg a2 s2 [(Ty.int (callsMay nm n l cs)), (Ty.bool (decide ((callsMay nm n l cs) ≠ (0 : Int))))] ok2 ⟨?_, ?_, trivial⟩ ?_
 · intro A B E G H; exact rP (y_move (kp (H 7 rfl) E q7))
 · intro A B E G H d0; exact rP (y_neq (ed d0 rfl rfl rfl) rfl)
 intro a3 s3 D3; have ok3 := D3.ok; have F3 := F2.step0 D3.stp; have q8 := D3.kt q4 rfl; have q9 := D3.kt q5 rfl; have q10 := D3.kt q6 rfl; have q11 := D3.kt q7 rfl; have q12 := D3.dn 1 rfl rfl; clear D3; refine tn ?_
 refine cond_p (p := ((callsMay nm n l cs) ≠ (0 : Int))) q12 (fun c1 => ?_) (fun c1 => ?_)
 ·
  have hm := touchMay_calls (leads := leads) c1
  refine wp_seq ?_
  refine rg a3 s3 [(Ty.int (callsMay nm n l cs)), (Ty.int (callsMay nm n l cs))] ok3 ⟨?_, ?_, trivial⟩ ?_
  · intro A B E G H; exact rP (y_move (kp (H 7 rfl) E q11))
  · intro A B E G H d0 d1; exact rP (y_assign (ed d0 rfl rfl rfl))
  intro a4 s4 D4; have ok4 := D4.ok; have F4 := F3.step0 D4.stp; have q13 := D4.dn 1 rfl rfl; clear D4; refine tn ?_; refine wp_ret ?_; refine tr ?_
  exact retL1 rfl ok4 F4 (cvi (by (exact hm.symm)) q13)
 ·
  have h0 := Classical.not_not.1 c1; have hl2 := (callsMay_ok h0).1.meth.l2
  refine wp_skip ?_; refine tn ?_; refine wp_seq ?_; refine wp_seq ?_
  refine rg a3 s3 [(Ty.lst Ty.int leads), (Ty.nat (List.length leads)), (Ty.bool (decide ((((List.length leads) : Nat) : Int) < (1 : Int)))), (Ty.bool (decide ((((List.length leads) : Nat) : Int) < (1 : Int)))), (Ty.grd ((decide ((((List.length leads) : Nat) : Int) < (1 : Int))) = false) (Ty.lst Ty.int leads)), (Ty.grd ((decide ((((List.length leads) : Nat) : Int) < (1 : Int))) = false) (Ty.nat (List.length leads))), (Ty.grd ((decide ((((List.length leads) : Nat) : Int) < (1 : Int))) = false) (Ty.bool (decide ((400 : Int) < (((List.length leads) : Nat) : Int))))), (Ty.bool ((decide ((((List.length leads) : Nat) : Int) < (1 : Int))) || (decide ((400 : Int) < (((List.length leads) : Nat) : Int)))))] ok3 ⟨?_, ?_, ?_, ?_, ?_, ?_, ?_, ?_, trivial⟩ ?_
  · intro A B E G H; exact rP (y_move (kp (H 2 rfl) E q9))
  · intro A B E G H d0; exact rP (y_len Tryd.underlying26 (ed d0 rfl rfl rfl))
  · intro A B E G H d0; exact rP (y_lss (ed d0 rfl rfl rfl) rfl)
  · intro A B E G H d0; exact rP (y_move (ed d0 rfl rfl rfl))
  · intro A B E G H d0
    refine run_guard G rfl rfl (by decide) (ed d0 rfl rfl rfl) (fun hg => ?_)
    have hp := of_decide_eq_false hg
    exact y_move (kp (H 2 rfl) E q9)
  · intro A B E G H d0 d1
    refine run_guard G rfl rfl (by decide) (ed d1 rfl rfl rfl) (fun hg => ?_)
    have hp := of_decide_eq_false hg
    exact y_len Tryd.underlying26 ((ed d0 rfl rfl rfl).1 hg)
  · intro A B E G H d0 d1
    refine run_guard G rfl rfl (by decide) (ed d1 rfl rfl rfl) (fun hg => ?_)
    have hp := of_decide_eq_false hg
    exact y_gtr ((ed d0 rfl rfl rfl).1 hg) rfl
  · intro A B E G H d0 d1; exact rP (y_pick_or (ed d0 rfl rfl rfl) rfl (ed d1 rfl rfl rfl))
  intro a5 s5 D5; have ok5 := D5.ok; have F5 := F3.step0 D5.stp; have q14 := D5.kt q8 rfl; have q15 := D5.kt q9 rfl; have q16 := D5.kt q10 rfl; have q17 := D5.dn 7 rfl rfl; clear D5; refine tn ?_
  refine cond_t q17 (fun c2 => ?_) (fun c2 => ?_)
  ·
   simp only [Bool.or_eq_true, decide_eq_true_eq] at c2; have hm := touchMay_cnt h0 (leads := leads) (by omega)
   refine wp_seq ?_
   refine rg a5 s5 [(Ty.int (1 : Int))] ok5 ⟨?_, trivial⟩ ?_
   · intro A B E G H; exact rP (y_assign rfl)
   intro a6 s6 D6; have ok6 := D6.ok; have F6 := F5.step0 D6.stp; have q18 := D6.dn 0 rfl rfl; clear D6; refine tn ?_; refine wp_ret ?_; refine tr ?_
   exact retL1 rfl ok6 F6 (cvi (by (exact hm.symm)) q18)
  ·
   obtain ⟨d1, d2⟩ := Bool.or_eq_false_iff.mp c2
   replace d1 := of_decide_eq_false d1
   replace d2 := of_decide_eq_false d2
   have hx2 : ¬ (leads.length < 1 ∨ 400 < leads.length) := (by simp only [Bool.or_eq_false_iff, decide_eq_false_iff_not] at c2; omega); have hmb : leads.length * l.length ≤ 400 * 200 := Nat.mul_le_mul (by omega) hl2; have hmc : ((leads.length : Nat) : Int) * ((l.length : Nat) : Int) = ((leads.length * l.length : Nat) : Int) := (Int.natCast_mul _ _).symm
   refine wp_skip ?_; refine tn ?_; refine wp_seq ?_; refine wp_seq ?_
   refine rg a5 s5 [(Ty.lst Ty.int leads), (Ty.nat (List.length leads)), (Ty.int (0 : Int))] ok5 ⟨?_, ?_, ?_, trivial⟩ ?_
   · intro A B E G H; exact rP (y_move (kp (H 2 rfl) E q15))
   · intro A B E G H d0; exact rP (y_len Tryd.underlying26 (ed d0 rfl rfl rfl))
   · intro A B E G H; exact rP (y_move rfl)
   intro a7 s7 D7; have ok7 := D7.ok; have F7 := F5.step0 D7.stp; have q19 := D7.kt q14 rfl; have q20 := D7.kt q15 rfl; have q21 := D7.kt q16 rfl; have q22 := D7.dn 0 rfl rfl; have q23 := D7.dn 1 rfl rfl; have q24 := D7.dn 2 rfl rfl; clear D7; refine tn ?_; refine wp_block ?_
   refine loop (fun n1 a8 w1 => ∃ (t1 : GW) (k : Nat), t1.w = w1 ∧ FromL [] s0 t1 ∧ Ok 46 a8 ∧ At (Ty.nat k) t1 a8 (.tmp 26) ∧ At (Ty.lstc 2 callC cs) t1 a8 (.tmp 1) ∧ At (Ty.lst Ty.int leads) t1 a8 (.tmp 2) ∧ At (Ty.ref [(Ty.val (Value.string nm)), (Ty.int n), (Ty.lst Ty.ints l)]) t1 a8 (.tmp 3) ∧ At (Ty.lst Ty.int leads) t1 a8 (.tmp 24) ∧ At (Ty.nat (List.length leads)) t1 a8 (.tmp 25) ∧ (k ≤ leads.length) ∧ (∀ j, j < k → 0 ≤ leads.getD j 0 ∧ leads.getD j 0 < cs.length) ∧ n1 = leads.length - k) (leads.length - (0)) ?_ ?_
   ·
    exact ⟨s7, 0, rfl, F7, ok7, (cvi (by (first | rfl | omega | (simp_all; done) | (simp_all; omega))) q24), q19, q20, q21, q22, q23, by omega, fun j hj => absurd hj (Nat.not_lt_zero j), rfl⟩
   ·
    rintro n2 a9 w2 ⟨t2, k, rfl, F8, ok8, q25, q26, q27, q28, q29, q30, hk, hin, rfl⟩
    refine wp_seq ?_
    refine reg (a := a9) (σ := t2) rfl (fun i_ => List.getD [(Ty.pr (Ty.bool (decide (((k : Nat) : Int) < (((List.length leads) : Nat) : Int)))))] i_ Pr.any) ok8 rfl ⟨?_, trivial⟩ ?_
    · intro A B E G H; exact rP (y_lss (kp (H 26 rfl) E q25) (kp (H 25 rfl) E q30))
    intro a10 s8 D8; have ok9 := D8.ok; have F9 := F8.step0 D8.stp; have q31 := D8.kt q25 rfl; have q32 := D8.kt q26 rfl; have q33 := D8.kt q27 rfl; have q34 := D8.kt q28 rfl; have q35 := D8.kt q29 rfl; have q36 := D8.kt q30 rfl; have q37 := D8.dn 0 rfl rfl; clear D8; refine tn ?_; refine wp_seq ?_
    refine cond_p (p := (((k : Nat) : Int) < (((List.length leads) : Nat) : Int))) q37 (fun c3 => ?_) (fun c3 => ?_)
    ·
     refine wp_skip ?_; refine tn ?_; refine wp_seq ?_; refine wp_block ?_; refine wp_seq ?_
     refine rg a10 s8 [(Ty.ref [(Ty.int (leads.getD k 0))]), (Ty.int (leads.getD k 0)), (Ty.int (leads.getD k 0))] ok9 ⟨?_, ?_, ?_, trivial⟩ ?_
     · intro A B E G H; exact rP (y_index1 Tryd.underlying26 Tryd.inf3 (kp (H 24 rfl) E q35) (kp (H 26 rfl) E q31) (by omega) (lst_get Ty.int leads 0 k (by omega)))
     · intro A B E G H d0; exact rP (y_load Tryd.underlying3 rfl (ed d0 rfl rfl rfl) rfl)
     · intro A B E G H d0 d1 d2; exact rP (y_assign (ed d0 rfl rfl rfl))
     intro a11 s9 D9; have ok10 := D9.ok; have F10 := F9.step0 D9.stp; have q38 := D9.kt q31 rfl; have q39 := D9.kt q32 rfl; have q40 := D9.kt q33 rfl; have q41 := D9.kt q34 rfl; have q42 := D9.kt q35 rfl; have q43 := D9.kt q36 rfl; have q44 := D9.dn 2 rfl rfl; clear D9; refine tn ?_; refine wp_seq ?_
     refine rg a11 s9 [(Ty.int (leads.getD k 0)), (Ty.bool (decide ((leads.getD k 0) < (0 : Int)))), (Ty.bool (decide ((leads.getD k 0) < (0 : Int)))), (Ty.grd ((decide ((leads.getD k 0) < (0 : Int))) = false) (Ty.int (leads.getD k 0))), (Ty.grd ((decide ((leads.getD k 0) < (0 : Int))) = false) (Ty.lstc 2 callC cs)), (Ty.grd ((decide ((leads.getD k 0) < (0 : Int))) = false) (Ty.nat (List.length cs))), (Ty.grd ((decide ((leads.getD k 0) < (0 : Int))) = false) (Ty.bool (decide ((((List.length cs) : Nat) : Int) ≤ (leads.getD k 0))))), (Ty.bool ((decide ((leads.getD k 0) < (0 : Int))) || (decide ((((List.length cs) : Nat) : Int) ≤ (leads.getD k 0)))))] ok10 ⟨?_, ?_, ?_, ?_, ?_, ?_, ?_, ?_, trivial⟩ ?_
     · intro A B E G H; exact rP (y_move (kp (H 9 rfl) E q44))
     · intro A B E G H d0; exact rP (y_lss (ed d0 rfl rfl rfl) rfl)
     · intro A B E G H d0; exact rP (y_move (ed d0 rfl rfl rfl))
     · intro A B E G H d0
       refine run_guard G rfl rfl (by decide) (ed d0 rfl rfl rfl) (fun hg => ?_)
       have hp := of_decide_eq_false hg
       exact y_move (kp (H 9 rfl) E q44)
     · intro A B E G H d0
       refine run_guard G rfl rfl (by decide) (ed d0 rfl rfl rfl) (fun hg => ?_)
       have hp := of_decide_eq_false hg
       exact y_move (kp (H 1 rfl) E q39)
     · intro A B E G H d0 d1
       refine run_guard G rfl rfl (by decide) (ed d1 rfl rfl rfl) (fun hg => ?_)
       have hp := of_decide_eq_false hg
       exact y_len Tryd.underlying25 ((ed d0 rfl rfl rfl).1 hg)
     · intro A B E G H d0 d1 d2
       refine run_guard G rfl rfl (by decide) (ed d2 rfl rfl rfl) (fun hg => ?_)
       have hp := of_decide_eq_false hg
       exact y_geq ((ed d0 rfl rfl rfl).1 hg) ((ed d1 rfl rfl rfl).1 hg)
     · intro A B E G H d0 d1; exact rP (y_pick_or (ed d0 rfl rfl rfl) rfl (ed d1 rfl rfl rfl))
     intro a12 s10 D10; have ok11 := D10.ok; have F11 := F10.step0 D10.stp; have q45 := D10.kt q38 rfl; have q46 := D10.kt q39 rfl; have q47 := D10.kt q40 rfl; have q48 := D10.kt q41 rfl; have q49 := D10.kt q42 rfl; have q50 := D10.kt q43 rfl; have q51 := D10.dn 7 rfl rfl; clear D10; refine tn ?_
     refine cond_t q51 (fun c4 => ?_) (fun c4 => ?_)
     ·
      simp only [Bool.or_eq_true, decide_eq_true_eq] at c4; have hm := touchMay_val h0 hx2 (k := k) (by omega) (by omega)
      refine wp_seq ?_
      refine rg a12 s10 [(Ty.int (12 : Int))] ok11 ⟨?_, trivial⟩ ?_
      · intro A B E G H; exact rP (y_assign rfl)
      intro a13 s11 D11; have ok12 := D11.ok; have F12 := F11.step0 D11.stp; have q52 := D11.dn 0 rfl rfl; clear D11; refine tn ?_; refine wp_ret ?_; refine br ?_; refine tr ?_; refine tr ?_; refine br ?_; refine tr ?_
      exact retL1 rfl ok12 F12 (cvi (by (exact hm.symm)) q52)
     ·
      obtain ⟨d3, d4⟩ := Bool.or_eq_false_iff.mp c4
      replace d3 := of_decide_eq_false d3
      replace d4 := of_decide_eq_false d4
      refine wp_skip ?_; refine bn ?_; refine tn ?_
      refine rg a12 s10 [(Ty.nat (k + 1)), (Ty.nat (k + 1))] ok11 ⟨?_, ?_, trivial⟩ ?_
      · intro A B E G H; exact rP ((y_add (kp (H 26 rfl) E q45) rfl (w64 (by omega) (by omega))).mono (fun τ _ h => cvi (σ := τ) (by first | omega | exact (Int.natCast_mul _ _).symm) h))
      · intro A B E G H d0; exact rP (y_move (ed d0 rfl rfl rfl))
      intro a14 s12 D12; have ok13 := D12.ok; have F13 := F11.step0 D12.stp; have q53 := D12.kt q46 rfl; have q54 := D12.kt q47 rfl; have q55 := D12.kt q48 rfl; have q56 := D12.kt q49 rfl; have q57 := D12.kt q50 rfl; have q58 := D12.dn 1 rfl rfl; clear D12
      exact tn ⟨leads.length - ((k+1)), by omega, s12, (k+1), rfl, F13, ok13, (cvi (by (first | rfl | omega | (simp_all; done) | (simp_all; omega))) q58), q53, q54, q55, q56, q57, by omega, fun j hj => by (by_cases e : j = k; subst e; simp only [Bool.or_eq_false_iff, decide_eq_false_iff_not] at c4; omega; exact hin j (by omega)), rfl⟩
    ·
     have hin2 : ∀ j, j < leads.length → 0 ≤ leads.getD j 0 ∧ leads.getD j 0 < cs.length := fun j hj => hin j (by omega)
     refine wp_exit ?_; refine tx ?_; refine tx ?_; refine bx ?_; refine tn ?_; refine wp_seq ?_; refine wp_seq ?_
     refine rg a10 s8 [(Ty.lst Ty.int leads), (Ty.nat (List.length leads)), (Ty.ref [(Ty.lst Ty.ints l)]), (Ty.lst Ty.ints l), (Ty.nat (List.length l)), (Ty.nat ((List.length leads) * (List.length l))), (Ty.bool (decide ((20000 : Int) < ((((List.length leads) * (List.length l)) : Nat) : Int))))] ok9 ⟨?_, ?_, ?_, ?_, ?_, ?_, ?_, trivial⟩ ?_
     · intro A B E G H; exact rP (y_move (kp (H 2 rfl) E q33))
     · intro A B E G H d0; exact rP (y_len Tryd.underlying26 (ed d0 rfl rfl rfl))
     · intro A B E G H; exact rP (y_field Tryd.fld24_2 Tryd.inf22 (by decide) (kp (H 3 rfl) E q34) rfl)
     · intro A B E G H d0; exact rP (y_load Tryd.underlying22 rfl (ed d0 rfl rfl rfl) rfl)
     · intro A B E G H d0; exact rP (y_len Tryd.underlying22 (ed d0 rfl rfl rfl))
     · intro A B E G H d0 d1; exact rP ((y_mul (ed d0 rfl rfl rfl) (ed d1 rfl rfl rfl) (w64 (by omega) (by omega))).mono (fun τ _ h => cvi (σ := τ) (by first | omega | exact (Int.natCast_mul _ _).symm) h))
     · intro A B E G H d0; exact rP (y_gtr (ed d0 rfl rfl rfl) rfl)
     intro a15 s13 D13; have ok14 := D13.ok; have F14 := F9.step0 D13.stp; have q59 := D13.dn 6 rfl rfl; clear D13; refine tn ?_
     refine cond_p (p := ((20000 : Int) < ((((List.length leads) * (List.length l)) : Nat) : Int))) q59 (fun c5 => ?_) (fun c5 => ?_)
     ·
      have hm := touchMay_lim h0 hx2 hin2 (by omega)
      refine wp_seq ?_
      refine rg a15 s13 [(Ty.int (3 : Int))] ok14 ⟨?_, trivial⟩ ?_
      · intro A B E G H; exact rP (y_assign rfl)
      intro a16 s14 D14; have ok15 := D14.ok; have F15 := F14.step0 D14.stp; have q60 := D14.dn 0 rfl rfl; clear D14; refine tn ?_; refine wp_ret ?_; refine tr ?_
      exact retL1 rfl ok15 F15 (cvi (by (exact hm.symm)) q60)
     ·
      have hm := touchMay_yes h0 hx2 hin2 (by omega)
      refine wp_skip ?_; refine tn ?_; refine wp_seq ?_
      refine rg a15 s13 [(Ty.int (0 : Int))] ok14 ⟨?_, trivial⟩ ?_
      · intro A B E G H; exact rP (y_assign rfl)
      intro a17 s15 D15; have ok16 := D15.ok; have F16 := F14.step0 D15.stp; have q61 := D15.dn 0 rfl rfl; clear D15; refine tn ?_; refine wp_ret ?_
      exact retL1 rfl ok16 F16 (cvi (by (exact hm.symm)) q61)


set_option maxRecDepth 100000 in
theorem first_fn (n : Nat) (σ : GW) (v0 : Value) (hv0 : Ty.has (Ty.nat n) σ v0) (hn : n ≤ 1000000) :
    FnC Tryd.prog 50 #[v0] σ (Ty.lst Ty.int (roundsL n)) := by
 refine fn_intro Tryd.func50 rfl Tryd.ntmps50 (Nat.le_of_ble_eq_true rfl) (fun s0 a0 hle F0 ok0 hargs => ?_)
 have p0 : At (Ty.nat n) s0 a0 (.tmp 0) := by have e := hargs 0 _ rfl; show Ty.has _ _ _; rw [e]; exact Ty.up _ hle hv0
 clear hargs; refine wp_seq ?_
 refine rg a0 s0 [(Ty.val (Value.slice none 0 0))] ok0 ⟨?_, trivial⟩ ?_
 · intro A B E G H; exact rP (y_assign rfl)
 intro a1 s1 D1; have ok1 := D1.ok; have F1 := F0.step0 D1.stp; have q1 := D1.kt p0 rfl; clear D1; refine tn ?_; refine wp_seq ?_
 refine reg (a := a1) (σ := s1) rfl (fun i_ => List.getD [(Ty.pr (Ty.nat n)), (Pr.own 11 3 1 n (List.map Ty.int (List.replicate n 0))), (Pr.own 11 3 1 n (List.map Ty.int (List.replicate n 0)))] i_ Pr.any) ok1 rfl ⟨?_, ?_, ?_, trivial⟩ ?_
 · intro A B E G H; exact rP (y_move (kp (H 0 rfl) E q1))
 · intro A B E G H d0 d1
   have e0 := ed d0 rfl rfl rfl
   exact rP ((y_make (k := 11) (T := Ty.int 0) (n := n) Tryd.underlying26 Tryd.inf3 rfl (fun _ => rfl) e0 e0 (by omega) (by omega)).mono (fun _ _ h => cvo (by simp) (by simp) h))
 · intro A B E G H d0 d1 d2
   have e1 : (Pr.own 11 3 1 n (List.map Ty.int (List.replicate n 0))).has B (A.eval (.tmp 6)) := d0 rfl
   exact rP (y_assign e1)
 intro a2 s2 D2; have ok2 := D2.ok; have F2 := F1.step0 D2.stp
 have q2 : (Pr.own 11 3 1 n (List.map Ty.int (List.replicate n 0))).has s2 (a2.eval (.tmp 3)) := D2.done 2
 clear D2; refine tn ?_; refine wp_seq ?_; refine wp_seq ?_
 refine rg a2 s2 [(Ty.val (a2.eval (.tmp 3))), (Ty.nat n), (Ty.int (0 : Int))] ok2 ⟨?_, ?_, ?_, trivial⟩ ?_
 · intro A B E G H; exact rP (y_move (H 3 rfl))
 · intro A B E G H d0; exact rP (own_len Tryd.underlying26 (al (ed d0 rfl rfl rfl) ((Pr.own 11 3 1 n (List.map Ty.int (List.replicate n 0))).up E q2)))
 · intro A B E G H; exact rP (y_move rfl)
 intro a3 s3 D3; have ok3 := D3.ok; have F3 := F2.step0 D3.stp
 have q3 : (Pr.own 11 3 1 n (List.map Ty.int (List.replicate n 0))).has s3 (a3.eval (.tmp 3)) := D3.ko q2 rfl
 have q4 := D3.dn 1 rfl rfl; have q5 := D3.dn 2 rfl rfl; clear D3; refine tn ?_; refine wp_block ?_
 refine loop (fun n1 a4 w1 => ∃ (t1 : GW) (k : Nat), t1.w = w1 ∧ From s0 t1 ∧ Ok 18 a4 ∧ At (Ty.nat k) t1 a4 (.tmp 9) ∧ (Pr.own 11 3 1 (List.length (firstTo n k)) (List.map Ty.int (firstTo n k))).has t1 (a4.eval (.tmp 3)) ∧ At (Ty.nat n) t1 a4 (.tmp 8) ∧ (k ≤ n) ∧ n1 = n - k) (n - (0)) ?_ ?_
 ·
  exact ⟨s3, 0, rfl, F3, ok3, (cvi (by (first | rfl | omega | (simp_all; done) | (simp_all; omega))) q5), (cvo (by (simp [firstTo_zero])) (by (simp [firstTo_zero])) q3), q4, by omega, rfl⟩
 ·
  rintro n2 a5 w2 ⟨t2, k, rfl, F4, ok4, q6, q7, q8, hk, rfl⟩
  have hp := firstTo_len n k
  refine wp_seq ?_
  refine reg (a := a5) (σ := t2) rfl (fun i_ => List.getD [(Ty.pr (Ty.bool (decide (((k : Nat) : Int) < ((n : Nat) : Int)))))] i_ Pr.any) ok4 rfl ⟨?_, trivial⟩ ?_
  · intro A B E G H; exact rP (y_lss (kp (H 9 rfl) E q6) (kp (H 8 rfl) E q8))
  intro a6 s4 D4; have ok5 := D4.ok; have F5 := F4.step0 D4.stp; have q9 := D4.kt q6 rfl
  have q10 : (Pr.own 11 3 1 (List.length (firstTo n k)) (List.map Ty.int (firstTo n k))).has s4 (a6.eval (.tmp 3)) := D4.ko q7 rfl
  have q11 := D4.kt q8 rfl; have q12 := D4.dn 0 rfl rfl; clear D4; refine tn ?_; refine wp_seq ?_
  refine cond_p (p := (((k : Nat) : Int) < ((n : Nat) : Int))) q12 (fun c1 => ?_) (fun c1 => ?_)
  ·
   refine wp_skip ?_; refine tn ?_; refine wp_seq ?_; refine wp_block ?_; refine wp_seq ?_
   refine rg a6 s4 [(Ty.nat k), (Ty.nat k)] ok5 ⟨?_, ?_, trivial⟩ ?_
   · intro A B E G H; exact rP (y_move (kp (H 9 rfl) E q9))
   · intro A B E G H d0 d1; exact rP (y_assign (ed d0 rfl rfl rfl))
   intro a7 s5 D5; have ok6 := D5.ok; have F6 := F5.step0 D5.stp; have q13 := D5.kt q9 rfl
   have q14 : (Pr.own 11 3 1 (List.length (firstTo n k)) (List.map Ty.int (firstTo n k))).has s5 (a7.eval (.tmp 3)) := D5.ko q10 rfl
   have q15 := D5.kt q11 rfl; have q16 := D5.dn 1 rfl rfl; clear D5; refine tn ?_
   refine reg2 (a := a7) (σ := s5) rfl 4 (fun i_ => List.getD [(Ty.pr (Ty.val (a7.eval (.tmp 3)))), (Ty.pr (Ty.nat k)), (Ty.pr (Ty.nat k)), (Ty.pr (Ty.val (cellPtr (a7.eval (.tmp 3)) k)))] i_ Pr.any) ok6 rfl (by decide) rfl ⟨?_, ?_, ?_, ?_, trivial⟩ ?_
   · intro A B E G H; exact rP (y_move (H 3 rfl))
   · intro A B E G H; exact rP (y_move (kp (H 4 rfl) E q16))
   · intro A B E G H; exact rP (y_move (kp (H 4 rfl) E q16))
   · intro A B E G H d0 d1 d2 d3 d4; exact rP (own_index1 (i := ((k : Nat) : Int)) Tryd.underlying26 Tryd.inf3 ((Pr.own 11 3 1 (List.length (firstTo n k)) (List.map Ty.int (firstTo n k))).up E q14) (ed d0 rfl rfl rfl) (ed d1 rfl rfl rfl) (by omega) (by omega))
   intro a8 s6 D6; have ok7 := D6.ok; have F7 := F6.step0 D6.stp; have q17 := (Pr.own 11 3 1 (List.length (firstTo n k)) (List.map Ty.int (firstTo n k))).up D6.stp q14; have q18 := D6.kt q13 rfl
   have q19 : a8.eval (.tmp 3) = a7.eval (.tmp 3) := D6.same 3 rfl
   have q20 := D6.kt q15 rfl; have q21 := D6.dn 2 (by decide) rfl rfl; have q22 := D6.dn 3 (by decide) rfl rfl; clear D6
   refine tail_step0 (m := 11) (R := (fun _ τ => Own τ 11 3 1 (a7.eval (.tmp 3)) (List.length (firstTo n k)) ((List.map Ty.int (firstTo n k)).set k (Ty.nat k)))) rfl rfl (m_store Tryd.inf3 (by decide) q17 q22 (by simp only [List.length_map, List.length_set]; omega) q21 (one_val rfl)) (fun v1 s7 hs1 r1 => ?_)
   have F8 := F7.step hs1 (by decide)
   have q23 : At (Ty.nat k) s7 a8 (.tmp 9) := kpm hs1 (by decide) rfl q18
   have q24 : At (Ty.nat n) s7 a8 (.tmp 8) := kpm hs1 (by decide) rfl q20
   have q25 : At (Ty.nat k) s7 a8 (.tmp 14) := kpm hs1 (by decide) rfl q21
   have q26 : (Pr.own 11 3 1 (List.length ((firstTo n k).set k ((k : Nat) : Int))) (List.map Ty.int ((firstTo n k).set k ((k : Nat) : Int)))).has s7 (a7.eval (.tmp 3)) := (cvo (by simp) (by simp) r1)
   refine wpList_nil ?_
   have q27 : (Pr.own 11 3 1 (List.length ((firstTo n k).set k ((k : Nat) : Int))) (List.map Ty.int ((firstTo n k).set k ((k : Nat) : Int)))).has s7 (a8.eval (.tmp 3)) := al q19 q26
   refine bn ?_; refine tn ?_
   refine rg a8 s7 [(Ty.int (((k : Nat) : Int) + (1 : Int))), (Ty.int (((k : Nat) : Int) + (1 : Int)))] ok7 ⟨?_, ?_, trivial⟩ ?_
   · intro A B E G H; exact rP (y_add (kp (H 9 rfl) E q23) rfl (w64 (by omega) (by omega)))
   · intro A B E G H d0; exact rP (y_move (ed d0 rfl rfl rfl))
   intro a10 s8 D7; have ok9 := D7.ok; have F9 := F8.step0 D7.stp
   have q28 : (Pr.own 11 3 1 (List.length ((firstTo n k).set k ((k : Nat) : Int))) (List.map Ty.int ((firstTo n k).set k ((k : Nat) : Int)))).has s8 (a10.eval (.tmp 3)) := D7.ko q27 rfl
   have q29 := D7.kt q24 rfl; have q30 := D7.dn 1 rfl rfl; clear D7
   exact tn ⟨n - ((k+1)), by omega, s8, (k+1), rfl, F9, ok9, (cvi (by (first | rfl | omega | (simp_all; done) | (simp_all; omega))) q30), (cvo (by (rw [firstTo_step n k])) (by (rw [firstTo_step n k])) q28), q29, by omega, rfl⟩
  ·
   refine wp_exit ?_; refine tx ?_; refine tx ?_; refine bx ?_; refine tn ?_; refine wp_seq ?_
   refine rg a6 s4 [(Ty.val (a6.eval (.tmp 3))), (Ty.val (a6.eval (.tmp 3)))] ok5 ⟨?_, ?_, trivial⟩ ?_
   · intro A B E G H; exact rP (y_move (H 3 rfl))
   · intro A B E G H d0 d1; exact rP (y_assign (ed d0 rfl rfl rfl))
   intro a11 s9 D8; have ok10 := D8.ok; have F10 := F5.step0 D8.stp
   have q31 : (Pr.own 11 3 1 (List.length (firstTo n k)) (List.map Ty.int (firstTo n k))).has s9 (a11.eval (.tmp 2)) := al (show _ = _ from D8.done 1) ((Pr.own 11 3 1 (List.length (firstTo n k)) (List.map Ty.int (firstTo n k))).up D8.stp q10)
   clear D8; refine tn ?_; refine wp_ret ?_
   obtain ⟨t3, e1, h1, q32⟩ := Own.seal q31 (by decide)
   rw [← e1]
   have F11 := F10.step h1 (by decide)
   exact ret1 rfl ok10 F11 (cvt (by (obtain rfl : k = n := (by omega); rw [firstTo_all])) q32)


set_option maxRecDepth 100000 in
theorem rounds_fn (n : Nat) (σ : GW) (v0 : Value) (hv0 : Ty.has (Ty.nat n) σ v0) (hn : 1 ≤ n ∧ n ≤ 12) :
    FnC Tryd.prog 34 #[v0] σ (Ty.tup2 (Ty.lst Ty.int (roundsL n)) (Ty.int (0 : Int))) := by
 refine fn_intro Tryd.func34 rfl Tryd.ntmps34 (Nat.le_of_ble_eq_true rfl) (fun s0 a0 hle F0 ok0 hargs => ?_)
 have p0 : At (Ty.nat n) s0 a0 (.tmp 0) := by have e := hargs 0 _ rfl; show Ty.has _ _ _; rw [e]; exact Ty.up _ hle hv0
 clear hargs; refine wp_seq ?_
 refine rg a0 s0 [(Ty.val (Value.slice none 0 0)), (Ty.int (0 : Int))] ok0 ⟨?_, ?_, trivial⟩ ?_
 · intro A B E G H; exact rP (y_assign rfl)
 · intro A B E G H d0; exact rP (y_assign rfl)
 intro a1 s1 D1; have ok1 := D1.ok; have F1 := F0.step0 D1.stp; have q1 := D1.kt p0 rfl; clear D1; refine tn ?_; refine wp_seq ?_; refine wp_seq ?_
 refine rg a1 s1 [(Ty.nat n), (Ty.bool (decide (((n : Nat) : Int) < (1 : Int)))), (Ty.bool (decide (((n : Nat) : Int) < (1 : Int)))), (Ty.grd ((decide (((n : Nat) : Int) < (1 : Int))) = false) (Ty.nat n)), (Ty.grd ((decide (((n : Nat) : Int) < (1 : Int))) = false) (Ty.bool (decide ((12 : Int) < ((n : Nat) : Int))))), (Ty.bool ((decide (((n : Nat) : Int) < (1 : Int))) || (decide ((12 : Int) < ((n : Nat) : Int)))))] ok1 ⟨?_, ?_, ?_, ?_, ?_, ?_, trivial⟩ ?_
 · intro A B E G H; exact rP (y_move (kp (H 0 rfl) E q1))
 · intro A B E G H d0; exact rP (y_lss (ed d0 rfl rfl rfl) rfl)
 · intro A B E G H d0; exact rP (y_move (ed d0 rfl rfl rfl))
 · intro A B E G H d0
   refine run_guard G rfl rfl (by decide) (ed d0 rfl rfl rfl) (fun hg => ?_)
   have hp := of_decide_eq_false hg
   exact y_move (kp (H 0 rfl) E q1)
 · intro A B E G H d0 d1
   refine run_guard G rfl rfl (by decide) (ed d1 rfl rfl rfl) (fun hg => ?_)
   have hp := of_decide_eq_false hg
   exact y_gtr ((ed d0 rfl rfl rfl).1 hg) rfl
 · intro A B E G H d0 d1; exact rP (y_pick_or (ed d0 rfl rfl rfl) rfl (ed d1 rfl rfl rfl))
 intro a2 s2 D2; have ok2 := D2.ok; have F2 := F1.step0 D2.stp; have q2 := D2.kt q1 rfl; have q3 := D2.dn 5 rfl rfl; clear D2; refine tn ?_
 refine cond_t q3 (fun c1 => ?_) (fun c1 => ?_)
 ·
  exfalso
  simp only [Bool.or_eq_true, decide_eq_true_eq] at c1; omega
 ·
  obtain ⟨d1, d2⟩ := Bool.or_eq_false_iff.mp c1
  replace d1 := of_decide_eq_false d1
  replace d2 := of_decide_eq_false d2
  refine wp_skip ?_; refine tn ?_; refine wp_seq ?_
  refine rg a2 s2 [(Ty.nat n), (Ty.lst Ty.int (roundsL n)), (Ty.lst Ty.int (roundsL n)), (Ty.int (0 : Int))] ok2 ⟨?_, ?_, ?_, ?_, trivial⟩ ?_
  · intro A B E G H; exact rP (y_move (kp (H 0 rfl) E q2))
  · intro A B E G H d0; exact rP (y_call #[A.eval (.tmp 10)] Tryd.func50 rfl rfl (by simp only [List.map_toArray, List.map_cons, List.map_nil]) (first_fn (n) _ _ (ed d0 rfl rfl rfl) (by omega)))
  · intro A B E G H d0 d1 d2 d3; exact rP (y_assign (ed d0 rfl rfl rfl))
  · intro A B E G H d0 d1 d2 d3; exact rP (y_assign rfl)
  intro a3 s3 D3; have ok3 := D3.ok; have F3 := F2.step0 D3.stp; have q4 := D3.dn 2 rfl rfl; have q5 := D3.dn 3 rfl rfl; clear D3; refine tn ?_; refine wp_ret ?_
  exact ret2 rfl ok3 F3 q4 q5


set_option maxHeartbeats 4000000 in
set_option maxRecDepth 100000 in
theorem grow_fn (n : Nat) (σ : GW) (hlow : Low [] σ) (v0 v1 : Value) (hv0 : Ty.has (Ty.val (Value.slice none 0 0)) σ v0) (hv1 : Ty.has (Ty.nat n) σ v1)  (hn : 1 ≤ n) (hl : n ≤ 1000000) :
    FnL Tryd.prog 65 #[v0, v1] σ [] (fun v τ => ∃ (z : Value), (Ty.has (Ty.val z) τ v) ∧ (Own τ 42 26 1 z 0 (List.map Ty.ints ([] : List (List Int))))) := by
 refine fn_introL hlow Tryd.func65 rfl Tryd.ntmps65 (Nat.le_of_ble_eq_true rfl) (fun a0 F0 ok0 hargs => ?_)
 have p0 : At (Ty.val (Value.slice none 0 0)) σ a0 (.tmp 0) := by have e := hargs 0 _ rfl; show Ty.has _ _ _; rw [e]; exact hv0
 have p1 : At (Ty.nat n) σ a0 (.tmp 1) := by have e := hargs 1 _ rfl; show Ty.has _ _ _; rw [e]; exact hv1
 clear hargs; refine wp_seq ?_
 refine reg (a := a0) (σ := σ) rfl (fun i_ => List.getD [(Ty.pr (Ty.val (Value.slice none 0 0)))] i_ Pr.any) ok0 rfl ⟨?_, trivial⟩ ?_
 · intro A B E G H; exact rP (y_assign rfl)
 intro a1 s1 D1; have ok1 := D1.ok; have F1 := F0.step0 D1.stp; have q1 := D1.kt p0 rfl; have q2 := D1.kt p1 rfl; clear D1; refine tn ?_; refine wp_seq ?_; refine wp_seq ?_
 refine rg a1 s1 [(Ty.nat n), (Ty.bool (decide (((n : Nat) : Int) < (0 : Int))))] ok1 ⟨?_, ?_, trivial⟩ ?_
 · intro A B E G H; exact rP (y_move (kp (H 1 rfl) E q2))
 · intro A B E G H d0; exact rP (y_lss (ed d0 rfl rfl rfl) rfl)
 intro a2 s2 D2; have ok2 := D2.ok; have F2 := F1.step0 D2.stp; have q3 := D2.kt q1 rfl; have q4 := D2.kt q2 rfl; have q5 := D2.dn 1 rfl rfl; clear D2; refine tn ?_
 refine cond_p (p := (((n : Nat) : Int) < (0 : Int))) q5 (fun c1 => ?_) (fun c1 => ?_)
 ·
  exfalso
  omega
 ·
  refine wp_skip ?_; refine tn ?_; refine wp_seq ?_; refine wp_seq ?_
  refine rg a2 s2 [(Ty.nat n), (Ty.val (Value.slice none 0 0)), (Ty.nat 0), (Ty.val (Value.slice none 0 0)), (Ty.nat 0), (Ty.int (((0 : Nat) : Int) - ((0 : Nat) : Int))), (Ty.int (((n : Nat) : Int) - (((0 : Nat) : Int) - ((0 : Nat) : Int)))), (Ty.int (((n : Nat) : Int) - (((0 : Nat) : Int) - ((0 : Nat) : Int))))] ok2 ⟨?_, ?_, ?_, ?_, ?_, ?_, ?_, ?_, trivial⟩ ?_
  · intro A B E G H; exact rP (y_move (kp (H 1 rfl) E q4))
  · intro A B E G H; exact rP (y_move (kp (H 0 rfl) E q3))
  · intro A B E G H d0; exact rP (y_capnil Tryd.underlying22 (ed d0 rfl rfl rfl))
  · intro A B E G H; exact rP (y_move (kp (H 0 rfl) E q3))
  · intro A B E G H d0; exact rP (y_len (c := 1) (ts := []) Tryd.underlying22 (nil_sl (ed d0 rfl rfl rfl)))
  · intro A B E G H d0 d1; exact rP (y_sub (ed d0 rfl rfl rfl) (ed d1 rfl rfl rfl) (w64 (by omega) (by omega)))
  · intro A B E G H d0 d1; exact rP (y_sub (ed d0 rfl rfl rfl) (ed d1 rfl rfl rfl) (w64 (by omega) (by omega)))
  · intro A B E G H d0 d1 d2 d3 d4 d5 d6 d7; exact rP (y_assign (ed d0 rfl rfl rfl))
  intro a3 s3 D3; have ok3 := D3.ok; have F3 := F2.step0 D3.stp; have q6 := D3.kt q3 rfl; have q7 := D3.dn 7 rfl rfl; clear D3; refine tn ?_; refine wp_seq ?_
  refine rg a3 s3 [(Ty.int (((n : Nat) : Int) - (((0 : Nat) : Int) - ((0 : Nat) : Int)))), (Ty.bool (decide ((0 : Int) < (((n : Nat) : Int) - (((0 : Nat) : Int) - ((0 : Nat) : Int))))))] ok3 ⟨?_, ?_, trivial⟩ ?_
  · intro A B E G H; exact rP (y_move (kp (H 1 rfl) E q7))
  · intro A B E G H d0; exact rP (y_gtr (ed d0 rfl rfl rfl) rfl)
  intro a4 s4 D4; have ok4 := D4.ok; have F4 := F3.step0 D4.stp; have q8 := D4.kt q6 rfl; have q9 := D4.kt q7 rfl; have q10 := D4.dn 1 rfl rfl; clear D4; refine tn ?_
  refine cond_p (p := ((0 : Int) < (((n : Nat) : Int) - (((0 : Nat) : Int) - ((0 : Nat) : Int))))) q10 (fun c2 => ?_) (fun c2 => ?_)
  ·
   refine reg2 (a := a4) (σ := s4) rfl 5 (fun i_ => List.getD [(Ty.pr (Ty.val (Value.slice none 0 0))), (Ty.pr (Ty.val (Value.slice none 0 0))), (Ty.pr (Ty.nat 0)), (Ty.pr (Ty.val (Value.slice none 0 0))), (Ty.pr (Ty.int (((n : Nat) : Int) - (((0 : Nat) : Int) - ((0 : Nat) : Int)))))] i_ Pr.any) ok4 rfl (by decide) rfl ⟨?_, ?_, ?_, ?_, ?_, trivial⟩ ?_
   · intro A B E G H; exact rP (y_move (kp (H 0 rfl) E q8))
   · intro A B E G H; exact rP (y_move (kp (H 0 rfl) E q8))
   · intro A B E G H d0; exact rP (y_capnil Tryd.underlying22 (ed d0 rfl rfl rfl))
   · intro A B E G H d0 d1; exact rP (y_slicenil Tryd.underlying22 Tryd.inf26 (ed d0 rfl rfl rfl) (ed d1 rfl rfl rfl))
   · intro A B E G H; exact rP (y_move (kp (H 1 rfl) E q9))
   intro a5 s5 D5; have ok5 := D5.ok; have F5 := F4.step0 D5.stp; have q11 := D5.kt q8 rfl; have q12 := D5.dn 3 (by decide) rfl rfl; have q13 := D5.dn 4 (by decide) rfl rfl; clear D5
   refine tailL (L := [42]) (R := (fun v τ => Own τ 42 26 1 v ((((n : Nat) : Int) - (((0 : Nat) : Int) - ((0 : Nat) : Int)))).toNat (List.replicate ((((n : Nat) : Int) - (((0 : Nat) : Int) - ((0 : Nat) : Int)))).toNat (Ty.ints [])))) rfl rfl (by decide) ok5 (YldM.toL (m_appendn (k := 42) (T := Ty.ints []) Tryd.underlying22 Tryd.underlying3 Tryd.inf26 rfl (fun _ => sl_nil) q12 (toN (σ := s5) q13 (by omega)) (by omega) (by omega) (by omega))) (fun a6 s6 hs1 ok6 r1 sm1 => ?_)
   have F6 := F5.stepL hs1 (by decide); have q14 := kpL hs1 (by decide) (sm1 0 (by decide)) q11
   obtain ⟨x1, hx1⟩ : ∃ x, a6.eval (.tmp 22) = x := ⟨_, rfl⟩
   have q15 : At (Ty.val x1) s6 a6 (.tmp 22) := hx1
   have o1 : Own s6 42 26 1 x1 ((((n : Nat) : Int) - (((0 : Nat) : Int) - ((0 : Nat) : Int)))).toNat (List.map Ty.ints (List.replicate ((((n : Nat) : Int) - (((0 : Nat) : Int) - ((0 : Nat) : Int)))).toNat [])) := al2 (R := (Pr.own 42 26 1 ((((n : Nat) : Int) - (((0 : Nat) : Int) - ((0 : Nat) : Int)))).toNat (List.map Ty.ints (List.replicate ((((n : Nat) : Int) - (((0 : Nat) : Int) - ((0 : Nat) : Int)))).toNat [])))) hx1 (cvo rfl (by simp) r1)
   clear r1
   refine tailL (L := []) (R := (fun v τ => Pr.has (Ty.pr (Ty.val (Value.slice none 0 0))) τ v)) rfl rfl (by decide) ok6 (Yld.toL (y_move q14)) (fun a7 s7 hs2 ok7 r2 sm2 => ?_)
   have F7 := F6.stepL hs2 (by decide); have q16 := kpL hs2 (by decide) (sm2 0 (by decide)) q14; have q17 := kpL hs2 (by decide) (sm2 22 (by decide)) q15; have o2 := Own.keepL o1 hs2 (by decide) (by decide)
   have q18 : At (Ty.val (Value.slice none 0 0)) s7 a7 (.tmp 23) := r2
   clear r2
   refine tailL (L := []) (R := (fun v τ => Pr.has (Ty.pr (Ty.nat 0)) τ v)) rfl rfl (by decide) ok7 (Yld.toL (y_len (c := 1) (ts := []) Tryd.underlying22 (nil_sl q18))) (fun a8 s8 hs3 ok8 r3 sm3 => ?_)
   have F8 := F7.stepL hs3 (by decide); have q19 := kpL hs3 (by decide) (sm3 0 (by decide)) q16; have q20 := kpL hs3 (by decide) (sm3 22 (by decide)) q17; have o3 := Own.keepL o2 hs3 (by decide) (by decide)
   have q21 : At (Ty.nat 0) s8 a8 (.tmp 24) := r3
   clear r3
   refine tailL (L := []) (R := (fun v τ => Pr.has (Pr.own 42 26 1 (List.length ((List.replicate ((((n : Nat) : Int) - (((0 : Nat) : Int) - ((0 : Nat) : Int)))).toNat []).take 0)) (List.map Ty.ints ((List.replicate ((((n : Nat) : Int) - (((0 : Nat) : Int) - ((0 : Nat) : Int)))).toNat []).take 0))) τ v)) rfl rfl (by decide) ok8 (Yld.toL ((y_otake (h := 0) Tryd.underlying22 Tryd.inf26 o3 q20 q21 (by omega)).mono (fun _ _ h => own_lst_take (by omega) h))) (fun a9 s9 hs4 ok9 r4 sm4 => ?_)
   have F9 := F8.stepL hs4 (by decide); have q22 := kpL hs4 (by decide) (sm4 0 (by decide)) q19; have o5 := Own.keepL o3 hs4 (by decide) (by decide)
   obtain ⟨x2, hx2⟩ : ∃ x, a9.eval (.tmp 25) = x := ⟨_, rfl⟩
   have q23 : At (Ty.val x2) s9 a9 (.tmp 25) := hx2
   have o4 : Own s9 42 26 1 x2 (List.length ((List.replicate ((((n : Nat) : Int) - (((0 : Nat) : Int) - ((0 : Nat) : Int)))).toNat []).take 0)) (List.map Ty.ints ((List.replicate ((((n : Nat) : Int) - (((0 : Nat) : Int) - ((0 : Nat) : Int)))).toNat []).take 0)) := al2 (R := (Pr.own 42 26 1 (List.length ((List.replicate ((((n : Nat) : Int) - (((0 : Nat) : Int) - ((0 : Nat) : Int)))).toNat []).take 0)) (List.map Ty.ints ((List.replicate ((((n : Nat) : Int) - (((0 : Nat) : Int) - ((0 : Nat) : Int)))).toNat []).take 0)))) hx2 r4
   clear r4
   refine tailL (L := []) (R := (fun v τ => Pr.has (Ty.pr (Ty.val x2)) τ v)) rfl rfl (by decide) ok9 (Yld.toL (y_assign q23)) (fun a10 s10 hs5 ok10 r5 sm5 => ?_)
   have F10 := F9.stepL hs5 (by decide); have o6 := Own.keepL o5 hs5 (by decide) (by decide); have o7 := Own.keepL o4 hs5 (by decide) (by decide)
   have q24 : At (Ty.val x2) s10 a10 (.tmp 0) := r5
   clear r5; refine wpList_nil ?_; refine tn ?_; refine wp_seq ?_
   refine rg a10 s10 [(Ty.val x2), (Ty.val x2)] ok10 ⟨?_, ?_, trivial⟩ ?_
   · intro A B E G H; exact rP (y_move (kp (H 0 rfl) E q24))
   · intro A B E G H d0 d1; exact rP (y_assign (ed d0 rfl rfl rfl))
   intro a11 s11 D6; have ok11 := D6.ok; have F11 := F10.step0 D6.stp; have o8 := Own.k0 o7 D6.stp
   have q25 : At (Ty.val x2) s11 a11 (.tmp 4) := D6.done 1
   clear D6; refine tn ?_; refine wp_ret ?_
   exact retL1 rfl ok11 F11 ⟨x2, q25, (cvo (by (simp)) (by (simp)) o8)⟩
  ·
   exfalso
   omega


set_option maxHeartbeats 4000000 in
set_option maxRecDepth 100000 in
theorem concat_fn (xss : List (List (List Int))) (σ : GW)  (v0 : Value) (hv0 : Ty.has (Ty.lst Ty.rows xss) σ v0)  (hp : 1 ≤ xss.flatten.length) (hl : xss.flatten.length ≤ 1000000) :
    FnC Tryd.prog 53 #[v0] σ (Ty.lst Ty.ints xss.flatten) := by
 refine fn_intro0 Tryd.func53 rfl Tryd.ntmps53 (Nat.le_of_ble_eq_true rfl) (fun s0 a0 hle F0 ok0 hargs => ?_)
 have p0 : At (Ty.lst Ty.rows xss) s0 a0 (.tmp 0) := by have e := hargs 0 _ rfl; show Ty.has _ _ _; rw [e]; exact Ty.up _ hle hv0
 have b1 := sl_le p0
 clear hargs; refine wp_seq ?_
 refine rg a0 s0 [(Ty.val (Value.slice none 0 0))] ok0 ⟨?_, trivial⟩ ?_
 · intro A B E G H; exact rP (y_assign rfl)
 intro a1 s1 D1; have ok1 := D1.ok; have F1 := F0.step0 D1.stp; have q1 := D1.kt p0 rfl; clear D1; refine tn ?_; refine wp_seq ?_
 refine rg a1 s1 [(Ty.int (0 : Int))] ok1 ⟨?_, trivial⟩ ?_
 · intro A B E G H; exact rP (y_assign rfl)
 intro a2 s2 D2; have ok2 := D2.ok; have F2 := F1.step0 D2.stp; have q2 := D2.kt q1 rfl; have q3 := D2.dn 0 rfl rfl; clear D2; refine tn ?_; refine wp_seq ?_; refine wp_seq ?_
 refine rg a2 s2 [(Ty.lst Ty.rows xss), (Ty.nat (List.length xss)), (Ty.int (0 : Int))] ok2 ⟨?_, ?_, ?_, trivial⟩ ?_
 · intro A B E G H; exact rP (y_move (kp (H 0 rfl) E q2))
 · intro A B E G H d0; exact rP (y_len Tryd.underlying90 (ed d0 rfl rfl rfl))
 · intro A B E G H; exact rP (y_move rfl)
 intro a3 s3 D3; have ok3 := D3.ok; have F3 := F2.step0 D3.stp; have q4 := D3.kt q2 rfl; have q5 := D3.kt q3 rfl; have q6 := D3.dn 0 rfl rfl; have q7 := D3.dn 1 rfl rfl; have q8 := D3.dn 2 rfl rfl; clear D3; refine tn ?_; refine wp_block ?_
 refine loop (fun n1 a4 w1 => ∃ (t1 : GW) (k : Nat), t1.w = w1 ∧ FromL [] s0 t1 ∧ Ok 36 a4 ∧ At (Ty.nat k) t1 a4 (.tmp 11) ∧ At (Ty.nat ((xss.take k).flatten.length)) t1 a4 (.tmp 3) ∧ At (Ty.lst Ty.rows xss) t1 a4 (.tmp 0) ∧ At (Ty.lst Ty.rows xss) t1 a4 (.tmp 9) ∧ At (Ty.nat (List.length xss)) t1 a4 (.tmp 10) ∧ (k ≤ xss.length) ∧ n1 = xss.length - k) (xss.length - (0)) ?_ ?_
 ·
  exact ⟨s3, 0, rfl, F3, ok3, (cvi (by (first | rfl | omega | (simp_all; done) | (simp_all; omega))) q8), (cvi (by (rfl)) q5), q4, q6, q7, by omega, rfl⟩
 ·
  rintro n2 a5 w2 ⟨t2, k, rfl, F4, ok4, q9, q10, q11, q12, q13, hk, rfl⟩
  have hfl := flatten_le xss k
  refine wp_seq ?_
  refine reg (a := a5) (σ := t2) rfl (fun i_ => List.getD [(Ty.pr (Ty.bool (decide (((k : Nat) : Int) < (((List.length xss) : Nat) : Int)))))] i_ Pr.any) ok4 rfl ⟨?_, trivial⟩ ?_
  · intro A B E G H; exact rP (y_lss (kp (H 11 rfl) E q9) (kp (H 10 rfl) E q13))
  intro a6 s4 D4; have ok5 := D4.ok; have F5 := F4.step0 D4.stp; have q14 := D4.kt q9 rfl; have q15 := D4.kt q10 rfl; have q16 := D4.kt q11 rfl; have q17 := D4.kt q12 rfl; have q18 := D4.kt q13 rfl; have q19 := D4.dn 0 rfl rfl; clear D4; refine tn ?_; refine wp_seq ?_
  refine cond_p (p := (((k : Nat) : Int) < (((List.length xss) : Nat) : Int))) q19 (fun c1 => ?_) (fun c1 => ?_)
  ·
   have hfs := flatten_succ (xss := xss) (k := k) (by omega); have hf2 := flatten_le xss (k + 1); rw [hfs, List.length_append] at hf2
   refine wp_skip ?_; refine tn ?_; refine wp_seq ?_; refine wp_block ?_; refine wp_seq ?_
   refine rg a6 s4 [(Ty.ref [(Ty.lst Ty.ints (xss.getD k []))]), (Ty.lst Ty.ints (xss.getD k [])), (Ty.lst Ty.ints (xss.getD k []))] ok5 ⟨?_, ?_, ?_, trivial⟩ ?_
   · intro A B E G H; exact rP (y_index1 Tryd.underlying90 Tryd.inf22 (kp (H 9 rfl) E q17) (kp (H 11 rfl) E q14) (by omega) (lst_get Ty.rows xss [] k (by omega)))
   · intro A B E G H d0; exact rP (y_load Tryd.underlying22 rfl (ed d0 rfl rfl rfl) rfl)
   · intro A B E G H d0 d1 d2; exact rP (y_assign (ed d0 rfl rfl rfl))
   intro a7 s5 D5; have ok6 := D5.ok; have F6 := F5.step0 D5.stp; have q20 := D5.kt q14 rfl; have q21 := D5.kt q15 rfl; have q22 := D5.kt q16 rfl; have q23 := D5.kt q17 rfl; have q24 := D5.kt q18 rfl; have q25 := D5.dn 2 rfl rfl; clear D5; refine tn ?_; refine wp_seq ?_
   refine rg a7 s5 [(Ty.nat ((xss.take k).flatten.length)), (Ty.lst Ty.ints (xss.getD k [])), (Ty.nat (List.length (xss.getD k []))), (Ty.nat (((xss.take k).flatten.length) + (List.length (xss.getD k [])))), (Ty.nat (((xss.take k).flatten.length) + (List.length (xss.getD k []))))] ok6 ⟨?_, ?_, ?_, ?_, ?_, trivial⟩ ?_
   · intro A B E G H; exact rP (y_move (kp (H 3 rfl) E q21))
   · intro A B E G H; exact rP (y_move (kp (H 5 rfl) E q25))
   · intro A B E G H d0; exact rP (y_len Tryd.underlying22 (ed d0 rfl rfl rfl))
   · intro A B E G H d0 d1; exact rP ((y_add (ed d0 rfl rfl rfl) (ed d1 rfl rfl rfl) (w64 (by omega) (by omega))).mono (fun τ _ h => cvi (σ := τ) (by first | omega | exact (Int.natCast_mul _ _).symm) h))
   · intro A B E G H d0 d1 d2 d3 d4; exact rP (y_assign (ed d0 rfl rfl rfl))
   intro a8 s6 D6; have ok7 := D6.ok; have F7 := F6.step0 D6.stp; have q26 := D6.kt q20 rfl; have q27 := D6.kt q22 rfl; have q28 := D6.kt q23 rfl; have q29 := D6.kt q24 rfl; have q30 := D6.dn 4 rfl rfl; clear D6; refine tn ?_; refine wp_seq ?_
   refine rg a8 s6 [(Ty.nat (((xss.take k).flatten.length) + (List.length (xss.getD k [])))), (Ty.bool (decide ((((((xss.take k).flatten.length) + (List.length (xss.getD k []))) : Nat) : Int) < (0 : Int))))] ok7 ⟨?_, ?_, trivial⟩ ?_
   · intro A B E G H; exact rP (y_move (kp (H 3 rfl) E q30))
   · intro A B E G H d0; exact rP (y_lss (ed d0 rfl rfl rfl) rfl)
   intro a9 s7 D7; have ok8 := D7.ok; have F8 := F7.step0 D7.stp; have q31 := D7.kt q26 rfl; have q32 := D7.kt q27 rfl; have q33 := D7.kt q28 rfl; have q34 := D7.kt q29 rfl; have q35 := D7.kt q30 rfl; have q36 := D7.dn 1 rfl rfl; clear D7; refine tn ?_
   refine cond_p (p := ((((((xss.take k).flatten.length) + (List.length (xss.getD k []))) : Nat) : Int) < (0 : Int))) q36 (fun c2 => ?_) (fun c2 => ?_)
   ·
    exfalso
    omega
   ·
    refine wp_skip ?_; refine bn ?_; refine tn ?_
    refine rg a9 s7 [(Ty.nat (k + 1)), (Ty.nat (k + 1))] ok8 ⟨?_, ?_, trivial⟩ ?_
    · intro A B E G H; exact rP ((y_add (kp (H 11 rfl) E q31) rfl (w64 (by omega) (by omega))).mono (fun τ _ h => cvi (σ := τ) (by first | omega | exact (Int.natCast_mul _ _).symm) h))
    · intro A B E G H d0; exact rP (y_move (ed d0 rfl rfl rfl))
    intro a10 s8 D8; have ok9 := D8.ok; have F9 := F8.step0 D8.stp; have q37 := D8.kt q32 rfl; have q38 := D8.kt q33 rfl; have q39 := D8.kt q34 rfl; have q40 := D8.kt q35 rfl; have q41 := D8.dn 1 rfl rfl; clear D8
    exact tn ⟨xss.length - ((k+1)), by omega, s8, (k+1), rfl, F9, ok9, (cvi (by (first | rfl | omega | (simp_all; done) | (simp_all; omega))) q41), (cvi (by (rw [flatten_succ (by omega), List.length_append])) q40), q37, q38, q39, by omega, rfl⟩
  ·
   have q42 : At (Ty.nat (xss.flatten.length)) s4 a6 (.tmp 3) := cvt (T := (Ty.nat ((xss.take k).flatten.length))) (U := (Ty.nat (xss.flatten.length))) (by rw [show k = xss.length by omega, List.take_length]) q15
   refine wp_exit ?_; refine tx ?_; refine tx ?_; refine bx ?_; refine tn ?_; refine wp_seq ?_
   refine reg2 (a := a6) (σ := s4) rfl 1 (fun i_ => List.getD [(Ty.pr (Ty.nat (xss.flatten.length)))] i_ Pr.any) ok5 rfl (by decide) rfl ⟨?_, trivial⟩ ?_
   · intro A B E G H; exact rP (y_move (kp (H 3 rfl) E q42))
   intro a11 s9 D9; have ok10 := D9.ok; have F10 := F5.step0 D9.stp; have q43 := D9.kt q16 rfl; have q44 := D9.dn 0 (by decide) rfl rfl; clear D9
   refine tailL (L := []) (R := (fun v τ' => ∃ τ, (fun v τ => ∃ (z : Value), (Ty.has (Ty.val z) τ v) ∧ (Own τ 42 26 1 z 0 (List.map Ty.ints ([] : List (List Int))))) v τ ∧ Back [(42, 5)] τ τ')) rfl rfl (by decide) ok10 (y_callL (L := []) [] [(42, 5)] #[a11.eval ((Operand.const (Value.slice none 0 0))), a11.eval (.tmp 23)] rfl (by decide) Tryd.func65 rfl rfl (by simp only [List.map_toArray, List.map_cons, List.map_nil]) (grow_fn ((xss.flatten.length)) _ (GW.low_lend _ (by decide)) _ _ (Ty.up _ (GW.le_lend _ _) rfl) (Ty.up _ (GW.le_lend _ _) (cvi (σ := s9) (by omega) q44))  (by omega) (by omega))) (fun a12 s10 hs1 ok11 r1 sm1 => ?_)
   have F11 := F10.stepL hs1 (by decide); have q45 := kpL hs1 (by decide) (sm1 0 (by decide)) q43
   obtain ⟨t3, ⟨x1, hT1, o1⟩, B1⟩ := r1
   have q46 : At (Ty.val x1) s10 a12 (.tmp 24) := Ty.up _ B1.le hT1
   have o2 : Own s10 5 26 1 x1 0 (List.map Ty.ints ([] : List (List Int))) := Own.ren o1 (B1.ren (by decide) rfl)
   refine tailL (L := []) (R := (fun v τ => Pr.has (Ty.pr (Ty.val x1)) τ v)) rfl rfl (by decide) ok11 (Yld.toL (y_assign q46)) (fun a13 s11 hs2 ok12 r2 sm2 => ?_)
   have F12 := F11.stepL hs2 (by decide); have q47 := kpL hs2 (by decide) (sm2 0 (by decide)) q45; have o3 := Own.keepL o2 hs2 (by decide) (by decide)
   have q48 : At (Ty.val x1) s11 a13 (.tmp 6) := r2
   clear r2; refine wpList_nil ?_; refine tn ?_; refine wp_seq ?_; refine wp_seq ?_
   refine rg a13 s11 [(Ty.lst Ty.rows xss), (Ty.nat (List.length xss)), (Ty.int (0 : Int))] ok12 ⟨?_, ?_, ?_, trivial⟩ ?_
   · intro A B E G H; exact rP (y_move (kp (H 0 rfl) E q47))
   · intro A B E G H d0; exact rP (y_len Tryd.underlying90 (ed d0 rfl rfl rfl))
   · intro A B E G H; exact rP (y_move rfl)
   intro a14 s12 D10; have ok13 := D10.ok; have F13 := F12.step0 D10.stp; have q49 := D10.kt q48 rfl; have o4 := Own.k0 o3 D10.stp; have q50 := D10.dn 0 rfl rfl; have q51 := D10.dn 1 rfl rfl; have q52 := D10.dn 2 rfl rfl; clear D10; refine tn ?_; refine wp_block ?_
   refine loop (fun n3 a15 w3 => ∃ (t4 : GW) (k : Nat) (x6_1 : Value), t4.w = w3 ∧ FromL [] s0 t4 ∧ Ok 36 a15 ∧ At (Ty.nat k) t4 a15 (.tmp 27) ∧ At (Ty.val x6_1) t4 a15 (.tmp 6) ∧ At (Ty.lst Ty.rows xss) t4 a15 (.tmp 25) ∧ At (Ty.nat (List.length xss)) t4 a15 (.tmp 26) ∧ Own t4 5 26 1 x6_1 (List.length (xss.take k).flatten) (List.map Ty.ints (xss.take k).flatten) ∧ (k ≤ xss.length) ∧ n3 = xss.length - k) (xss.length - (0)) ?_ ?_
   ·
    exact ⟨s12, 0, x1, rfl, F13, ok13, (cvi (by (first | rfl | omega | (simp_all; done) | (simp_all; omega))) q52), q49, q50, q51, (cvo (by (simp)) (by (simp)) o4), by omega, rfl⟩
   ·
    rintro n4 a16 w4 ⟨t5, k, x6_1, rfl, F14, ok14, q53, q54, q55, q56, o5, hk, rfl⟩
    have hfl := flatten_le xss k
    refine wp_seq ?_
    refine reg (a := a16) (σ := t5) rfl (fun i_ => List.getD [(Ty.pr (Ty.bool (decide (((k : Nat) : Int) < (((List.length xss) : Nat) : Int)))))] i_ Pr.any) ok14 rfl ⟨?_, trivial⟩ ?_
    · intro A B E G H; exact rP (y_lss (kp (H 27 rfl) E q53) (kp (H 26 rfl) E q56))
    intro a17 s13 D11; have ok15 := D11.ok; have F15 := F14.step0 D11.stp; have q57 := D11.kt q53 rfl; have q58 := D11.kt q54 rfl; have q59 := D11.kt q55 rfl; have q60 := D11.kt q56 rfl; have o6 := Own.k0 o5 D11.stp; have q61 := D11.dn 0 rfl rfl; clear D11; refine tn ?_; refine wp_seq ?_
    refine cond_p (p := (((k : Nat) : Int) < (((List.length xss) : Nat) : Int))) q61 (fun c3 => ?_) (fun c3 => ?_)
    ·
     have hfs := flatten_succ (xss := xss) (k := k) (by omega); have hf2 := flatten_le xss (k + 1); rw [hfs, List.length_append] at hf2
     refine wp_skip ?_; refine tn ?_; refine wp_seq ?_; refine wp_block ?_; refine wp_seq ?_
     refine rg a17 s13 [(Ty.ref [(Ty.lst Ty.ints (xss.getD k []))]), (Ty.lst Ty.ints (xss.getD k [])), (Ty.lst Ty.ints (xss.getD k []))] ok15 ⟨?_, ?_, ?_, trivial⟩ ?_
     · intro A B E G H; exact rP (y_index1 Tryd.underlying90 Tryd.inf22 (kp (H 25 rfl) E q59) (kp (H 27 rfl) E q57) (by omega) (lst_get Ty.rows xss [] k (by omega)))
     · intro A B E G H d0; exact rP (y_load Tryd.underlying22 rfl (ed d0 rfl rfl rfl) rfl)
     · intro A B E G H d0 d1 d2; exact rP (y_assign (ed d0 rfl rfl rfl))
     intro a18 s14 D12; have ok16 := D12.ok; have F16 := F15.step0 D12.stp; have q62 := D12.kt q57 rfl; have q63 := D12.kt q58 rfl; have q64 := D12.kt q59 rfl; have q65 := D12.kt q60 rfl; have o7 := Own.k0 o6 D12.stp; have q66 := D12.dn 2 rfl rfl; clear D12; refine tn ?_
     refine reg2 (a := a18) (σ := s14) rfl 2 (fun i_ => List.getD [(Ty.pr (Ty.val x6_1)), (Ty.pr (Ty.lst Ty.ints (xss.getD k [])))] i_ Pr.any) ok16 rfl (by decide) rfl ⟨?_, ?_, trivial⟩ ?_
     · intro A B E G H; exact rP (y_move (kp (H 6 rfl) E q63))
     · intro A B E G H; exact rP (y_move (kp (H 8 rfl) E q66))
     intro a19 s15 D13; have ok17 := D13.ok; have F17 := F16.step0 D13.stp; have q67 := D13.kt q62 rfl; have q68 := D13.kt q63 rfl; have q69 := D13.kt q64 rfl; have q70 := D13.kt q65 rfl; have o8 := Own.k0 o7 D13.stp
     have q71 : At (Ty.val x6_1) s15 a19 (.tmp 31) := D13.done 0 (by decide)
     have q72 := D13.dn 1 (by decide) rfl rfl; clear D13
     refine tailL (L := [5]) (R := (fun v τ => Own τ 5 26 1 v ((List.length (xss.take k).flatten) + (List.length (xss.getD k []))) ((List.map Ty.ints (xss.take k).flatten) ++ (List.map Ty.ints (xss.getD k []))))) rfl rfl (by decide) ok17 (YldM.toL (m_append Tryd.underlying22 Tryd.inf26 (by decide) rfl (by decide) (al (R := (Pr.own 5 26 1 (List.length (xss.take k).flatten) (List.map Ty.ints (xss.take k).flatten))) q71 o8) q72 (one_map (fun _ => one_sl)) (by omega) (by omega))) (fun a20 s16 hs3 ok18 r3 sm3 => ?_)
     have F18 := F17.stepL hs3 (by decide); have q73 := kpL hs3 (by decide) (sm3 27 (by decide)) q67; have q74 := kpL hs3 (by decide) (sm3 6 (by decide)) q68; have q75 := kpL hs3 (by decide) (sm3 25 (by decide)) q69; have q76 := kpL hs3 (by decide) (sm3 26 (by decide)) q70
     obtain ⟨x2, hx1⟩ : ∃ x, a20.eval (.tmp 33) = x := ⟨_, rfl⟩
     have q77 : At (Ty.val x2) s16 a20 (.tmp 33) := hx1
     have o9 : Own s16 5 26 1 x2 (List.length ((xss.take k).flatten ++ (xss.getD k []))) (List.map Ty.ints ((xss.take k).flatten ++ (xss.getD k []))) := al2 (R := (Pr.own 5 26 1 (List.length ((xss.take k).flatten ++ (xss.getD k []))) (List.map Ty.ints ((xss.take k).flatten ++ (xss.getD k []))))) hx1 (cvo (by simp) (by first | (rw [List.map_append]; rfl) | simp) r3)
     clear r3
     refine tailL (L := []) (R := (fun v τ => Pr.has (Ty.pr (Ty.val x2)) τ v)) rfl rfl (by decide) ok18 (Yld.toL (y_assign q77)) (fun a21 s17 hs4 ok19 r4 sm4 => ?_)
     have F19 := F18.stepL hs4 (by decide); have q78 := kpL hs4 (by decide) (sm4 27 (by decide)) q73; have q79 := kpL hs4 (by decide) (sm4 25 (by decide)) q75; have q80 := kpL hs4 (by decide) (sm4 26 (by decide)) q76; have o10 := Own.keepL o9 hs4 (by decide) (by decide)
     have q81 : At (Ty.val x2) s17 a21 (.tmp 6) := r4
     clear r4; refine wpList_nil ?_; refine bn ?_; refine tn ?_
     refine rg a21 s17 [(Ty.nat (k + 1)), (Ty.nat (k + 1))] ok19 ⟨?_, ?_, trivial⟩ ?_
     · intro A B E G H; exact rP ((y_add (kp (H 27 rfl) E q78) rfl (w64 (by omega) (by omega))).mono (fun τ _ h => cvi (σ := τ) (by first | omega | exact (Int.natCast_mul _ _).symm) h))
     · intro A B E G H d0; exact rP (y_move (ed d0 rfl rfl rfl))
     intro a22 s18 D14; have ok20 := D14.ok; have F20 := F19.step0 D14.stp; have q82 := D14.kt q79 rfl; have q83 := D14.kt q80 rfl; have q84 := D14.kt q81 rfl; have o11 := Own.k0 o10 D14.stp; have q85 := D14.dn 1 rfl rfl; clear D14
     exact tn ⟨xss.length - ((k+1)), by omega, s18, (k+1), x2, rfl, F20, ok20, (cvi (by (first | rfl | omega | (simp_all; done) | (simp_all; omega))) q85), q84, q82, q83, (cvo (by (rw [flatten_succ (by omega)])) (by (rw [flatten_succ (by omega)])) o11), by omega, rfl⟩
    ·
     have hke2 : k = xss.length := (by omega)
     refine wp_exit ?_; refine tx ?_; refine tx ?_; refine bx ?_; refine tn ?_; refine wp_seq ?_
     refine rg a17 s13 [(Ty.val x6_1), (Ty.val x6_1)] ok15 ⟨?_, ?_, trivial⟩ ?_
     · intro A B E G H; exact rP (y_move (kp (H 6 rfl) E q58))
     · intro A B E G H d0 d1; exact rP (y_assign (ed d0 rfl rfl rfl))
     intro a23 s19 D15; have ok21 := D15.ok; have F21 := F15.step0 D15.stp; have o12 := Own.k0 o6 D15.stp
     have q86 : At (Ty.val x6_1) s19 a23 (.tmp 2) := D15.done 1
     clear D15; refine tn ?_; refine wp_ret ?_
     obtain ⟨t6, e1, h1, q87⟩ := Own.seal o12 (by decide)
     rw [← e1]
     have F22 := F21.step h1 (by decide)
     have q88 : At (Ty.lst Ty.ints (xss.take k).flatten) t6 a23 (.tmp 2) := by have e : a23.eval (.tmp 2) = x6_1 := q86; show Ty.has _ _ _; rw [e]; exact q87
     exact retL1 rfl ok21 F22 (cvt (by (rw [hke2, List.take_length])) q88)


set_option maxHeartbeats 4000000 in
set_option maxRecDepth 100000 in
theorem changes_fn (nm : ByteArray) (n : Int) (l : List (List Int)) (sx : Int) (lx : List (List Int)) (σ : GW)  (v0 v1 : Value) (hv0 : Ty.has (Ty.agg [(Ty.val (Value.string nm)), (Ty.int n), (Ty.lst Ty.ints l)]) σ v0) (hv1 : Ty.has (Ty.agg [(Ty.val (Value.int .i32 sx)), (Ty.lst Ty.ints lx)]) σ v1)  (hx : lx.length ≤ l.length) (hl1 : 1 ≤ l.length) (hl2 : l.length ≤ 200) :
    FnC Tryd.prog 36 #[v0, v1] σ (Ty.lst Ty.ints (endsL l (sx, lx))) := by
 refine fn_intro0 Tryd.func36 rfl Tryd.ntmps36 (Nat.le_of_ble_eq_true rfl) (fun s0 a0 hle F0 ok0 hargs => ?_)
 have p0 : At (Ty.agg [(Ty.val (Value.string nm)), (Ty.int n), (Ty.lst Ty.ints l)]) s0 a0 (.tmp 0) := by have e := hargs 0 _ rfl; show Ty.has _ _ _; rw [e]; exact Ty.up _ hle hv0
 have p1 : At (Ty.agg [(Ty.val (Value.int .i32 sx)), (Ty.lst Ty.ints lx)]) s0 a0 (.tmp 1) := by have e := hargs 1 _ rfl; show Ty.has _ _ _; rw [e]; exact Ty.up _ hle hv1
 clear hargs; refine wp_seq ?_
 refine rg a0 s0 [(Ty.ref [(Ty.val (Value.string nm)), (Ty.int n), (Ty.lst Ty.ints l)]), (Ty.ref [(Ty.val (Value.int .i32 sx)), (Ty.lst Ty.ints lx)]), (Ty.val (Value.slice none 0 0))] ok0 ⟨?_, ?_, ?_, trivial⟩ ?_
 · intro A B E G H; exact rP (y_boxagg (kp (H 0 rfl) E p0))
 · intro A B E G H; exact rP (y_boxagg (kp (H 1 rfl) E p1))
 · intro A B E G H; exact rP (y_assign rfl)
 intro a1 s1 D1; have ok1 := D1.ok; have F1 := F0.step0 D1.stp; have q1 := D1.dn 0 rfl rfl; have q2 := D1.dn 1 rfl rfl; clear D1; refine tn ?_; refine wp_seq ?_
 refine rg a1 s1 [(Ty.ref [(Ty.lst Ty.ints l)]), (Ty.lst Ty.ints l), (Ty.ref [(Ty.lst Ty.ints l)]), (Ty.lst Ty.ints l), (Ty.nat (List.length l)), (Ty.ref [(Ty.lst Ty.ints lx)]), (Ty.lst Ty.ints lx), (Ty.nat (List.length lx)), (Ty.int ((((List.length l) : Nat) : Int) - (((List.length lx) : Nat) : Int))), (Ty.lst Ty.ints (l.take (((((List.length l) : Nat) : Int) - (((List.length lx) : Nat) : Int))).toNat)), (Ty.ref [(Ty.lst Ty.ints lx)]), (Ty.lst Ty.ints lx), (Ty.sl 1 2 [(Ty.lst Ty.ints (l.take (((((List.length l) : Nat) : Int) - (((List.length lx) : Nat) : Int))).toNat)), (Ty.lst Ty.ints lx)]), (Ty.lst Ty.ints ([(l.take (((((List.length l) : Nat) : Int) - (((List.length lx) : Nat) : Int))).toNat), lx]).flatten), (Ty.lst Ty.ints ([(l.take (((((List.length l) : Nat) : Int) - (((List.length lx) : Nat) : Int))).toNat), lx]).flatten)] ok1 ⟨?_, ?_, ?_, ?_, ?_, ?_, ?_, ?_, ?_, ?_, ?_, ?_, ?_, ?_, ?_, trivial⟩ ?_
 · intro A B E G H; exact rP (y_field Tryd.fld24_2 Tryd.inf22 (by decide) (kp (H 2 rfl) E q1) rfl)
 · intro A B E G H d0; exact rP (y_load Tryd.underlying22 rfl (ed d0 rfl rfl rfl) rfl)
 · intro A B E G H; exact rP (y_field Tryd.fld24_2 Tryd.inf22 (by decide) (kp (H 2 rfl) E q1) rfl)
 · intro A B E G H d0; exact rP (y_load Tryd.underlying22 rfl (ed d0 rfl rfl rfl) rfl)
 · intro A B E G H d0; exact rP (y_len Tryd.underlying22 (ed d0 rfl rfl rfl))
 · intro A B E G H; exact rP (y_field Tryd.fld50_1 Tryd.inf22 (by decide) (kp (H 3 rfl) E q2) rfl)
 · intro A B E G H d0; exact rP (y_load Tryd.underlying22 rfl (ed d0 rfl rfl rfl) rfl)
 · intro A B E G H d0; exact rP (y_len Tryd.underlying22 (ed d0 rfl rfl rfl))
 · intro A B E G H d0 d1; exact rP (y_sub (ed d0 rfl rfl rfl) (ed d1 rfl rfl rfl) (w64 (by omega) (by omega)))
 · intro A B E G H d0 d1; exact rP (y_take Tryd.underlying22 Tryd.inf26 (ed d0 rfl rfl rfl) (toN (σ := B) (ed d1 rfl rfl rfl) (by omega)) (by omega))
 · intro A B E G H; exact rP (y_field Tryd.fld50_1 Tryd.inf22 (by decide) (kp (H 3 rfl) E q2) rfl)
 · intro A B E G H d0; exact rP (y_load Tryd.underlying22 rfl (ed d0 rfl rfl rfl) rfl)
 · intro A B E G H d0 d1; exact rP (y_build2 Tryd.underlying90 Tryd.inf22 rfl (one_sl) (one_sl) (ed d0 rfl rfl rfl) (ed d1 rfl rfl rfl))
 · intro A B E G H d0; exact rP (y_call #[A.eval (.tmp 17)] Tryd.func53 rfl rfl (by simp only [List.map_toArray, List.map_cons, List.map_nil]) (concat_fn ([(l.take (((((List.length l) : Nat) : Int) - (((List.length lx) : Nat) : Int))).toNat), lx]) _ _ (ed d0 rfl rfl rfl) (by first | omega | (simp only [List.flatten_cons, List.flatten_nil, List.length_append, List.length_nil, List.length_take]; omega)) (by first | omega | (simp only [List.flatten_cons, List.flatten_nil, List.length_append, List.length_nil, List.length_take]; omega))))
 · intro A B E G H d0 d1 d2 d3 d4 d5 d6 d7 d8 d9 d10 d11 d12 d13 d14 d15; exact rP (y_assign (ed d0 rfl rfl rfl))
 intro a2 s2 D2; have ok2 := D2.ok; have F2 := F1.step0 D2.stp; have q3 := D2.dn 14 rfl rfl; clear D2; refine tn ?_; refine wp_ret ?_
 exact retL1 rfl ok2 F2 (cvt (by (simp only [endsL, List.flatten_cons, List.flatten_nil, List.append_nil, Int.toNat_sub])) q3)


set_option maxRecDepth 100000 in
theorem index_fn (xs : List Int) (x : Int) (σ : GW) (v0 v1 : Value) (hv0 : Ty.has (Ty.lst Ty.int xs) σ v0) (hv1 : Ty.has (Ty.int x) σ v1)  :
    FnC Tryd.prog 76 #[v0, v1] σ (Ty.int (indexL xs x)) := by
 refine fn_intro Tryd.func76 rfl Tryd.ntmps76 (Nat.le_of_ble_eq_true rfl) (fun s0 a0 hle F0 ok0 hargs => ?_)
 have p0 : At (Ty.lst Ty.int xs) s0 a0 (.tmp 0) := by have e := hargs 0 _ rfl; show Ty.has _ _ _; rw [e]; exact Ty.up _ hle hv0
 have b1 := sl_le p0
 have p1 : At (Ty.int x) s0 a0 (.tmp 1) := by have e := hargs 1 _ rfl; show Ty.has _ _ _; rw [e]; exact Ty.up _ hle hv1
 clear hargs; refine wp_seq ?_
 refine rg a0 s0 [(Ty.int (0 : Int))] ok0 ⟨?_, trivial⟩ ?_
 · intro A B E G H; exact rP (y_assign rfl)
 intro a1 s1 D1; have ok1 := D1.ok; have F1 := F0.step0 D1.stp; have q1 := D1.kt p0 rfl; have q2 := D1.kt p1 rfl; clear D1; refine tn ?_; refine wp_seq ?_; refine wp_seq ?_
 refine rg a1 s1 [(Ty.lst Ty.int xs), (Ty.nat (List.length xs)), (Ty.int (0 : Int))] ok1 ⟨?_, ?_, ?_, trivial⟩ ?_
 · intro A B E G H; exact rP (y_move (kp (H 0 rfl) E q1))
 · intro A B E G H d0; exact rP (y_len Tryd.underlying26 (ed d0 rfl rfl rfl))
 · intro A B E G H; exact rP (y_move rfl)
 intro a2 s2 D2; have ok2 := D2.ok; have F2 := F1.step0 D2.stp; have q3 := D2.kt q1 rfl; have q4 := D2.kt q2 rfl; have q5 := D2.dn 1 rfl rfl; have q6 := D2.dn 2 rfl rfl; clear D2; refine tn ?_; refine wp_block ?_
 refine loop (fun n1 a3 w1 => ∃ (t1 : GW) (k : Nat), t1.w = w1 ∧ From s0 t1 ∧ Ok 19 a3 ∧ At (Ty.nat k) t1 a3 (.tmp 8) ∧ At (Ty.lst Ty.int xs) t1 a3 (.tmp 0) ∧ At (Ty.int x) t1 a3 (.tmp 1) ∧ At (Ty.nat (List.length xs)) t1 a3 (.tmp 7) ∧ (k ≤ xs.length) ∧ (∀ j, j < k → xs.getD j 0 ≠ x) ∧ n1 = xs.length - k) (xs.length - (0)) ?_ ?_
 ·
  exact ⟨s2, 0, rfl, F2, ok2, (cvi (by (first | rfl | omega | (simp_all; done) | (simp_all; omega))) q6), q3, q4, q5, by omega, fun j hj => absurd hj (Nat.not_lt_zero j), rfl⟩
 ·
  rintro n2 a4 w2 ⟨t2, k, rfl, F3, ok3, q7, q8, q9, q10, hk, hno, rfl⟩
  refine wp_seq ?_
  refine reg (a := a4) (σ := t2) rfl (fun i_ => List.getD [(Ty.pr (Ty.bool (decide (((k : Nat) : Int) < (((List.length xs) : Nat) : Int)))))] i_ Pr.any) ok3 rfl ⟨?_, trivial⟩ ?_
  · intro A B E G H; exact rP (y_lss (kp (H 8 rfl) E q7) (kp (H 7 rfl) E q10))
  intro a5 s3 D3; have ok4 := D3.ok; have F4 := F3.step0 D3.stp; have q11 := D3.kt q7 rfl; have q12 := D3.kt q8 rfl; have q13 := D3.kt q9 rfl; have q14 := D3.kt q10 rfl; have q15 := D3.dn 0 rfl rfl; clear D3; refine tn ?_; refine wp_seq ?_
  refine cond_p (p := (((k : Nat) : Int) < (((List.length xs) : Nat) : Int))) q15 (fun c1 => ?_) (fun c1 => ?_)
  ·
   refine wp_skip ?_; refine tn ?_; refine wp_seq ?_; refine wp_block ?_; refine wp_seq ?_
   refine rg a5 s3 [(Ty.nat k), (Ty.nat k)] ok4 ⟨?_, ?_, trivial⟩ ?_
   · intro A B E G H; exact rP (y_move (kp (H 8 rfl) E q11))
   · intro A B E G H d0 d1; exact rP (y_assign (ed d0 rfl rfl rfl))
   intro a6 s4 D4; have ok5 := D4.ok; have F5 := F4.step0 D4.stp; have q16 := D4.kt q11 rfl; have q17 := D4.kt q12 rfl; have q18 := D4.kt q13 rfl; have q19 := D4.kt q14 rfl; have q20 := D4.dn 1 rfl rfl; clear D4; refine tn ?_; refine wp_seq ?_
   refine rg a6 s4 [(Ty.int x), (Ty.lst Ty.int xs), (Ty.nat k), (Ty.ref [(Ty.int (xs.getD k 0))]), (Ty.int (xs.getD k 0)), (Ty.bool (decide (x = (xs.getD k 0))))] ok5 ⟨?_, ?_, ?_, ?_, ?_, ?_, trivial⟩ ?_
   · intro A B E G H; exact rP (y_move (kp (H 1 rfl) E q18))
   · intro A B E G H; exact rP (y_move (kp (H 0 rfl) E q17))
   · intro A B E G H; exact rP (y_move (kp (H 5 rfl) E q20))
   · intro A B E G H d0 d1; exact rP (y_index1 Tryd.underlying26 Tryd.inf3 (ed d0 rfl rfl rfl) (ed d1 rfl rfl rfl) (by omega) (lst_get Ty.int xs 0 k (by omega)))
   · intro A B E G H d0; exact rP (y_load Tryd.underlying3 rfl (ed d0 rfl rfl rfl) rfl)
   · intro A B E G H d0 d1; exact rP (y_eql (ed d0 rfl rfl rfl) (ed d1 rfl rfl rfl))
   intro a7 s5 D5; have ok6 := D5.ok; have F6 := F5.step0 D5.stp; have q21 := D5.kt q16 rfl; have q22 := D5.kt q17 rfl; have q23 := D5.kt q18 rfl; have q24 := D5.kt q19 rfl; have q25 := D5.kt q20 rfl; have q26 := D5.dn 5 rfl rfl; clear D5; refine tn ?_
   refine cond_p (p := (x = (xs.getD k 0))) q26 (fun c2 => ?_) (fun c2 => ?_)
   ·
    refine wp_seq ?_
    refine rg a7 s5 [(Ty.nat k), (Ty.nat k)] ok6 ⟨?_, ?_, trivial⟩ ?_
    · intro A B E G H; exact rP (y_move (kp (H 5 rfl) E q25))
    · intro A B E G H d0 d1; exact rP (y_assign (ed d0 rfl rfl rfl))
    intro a8 s6 D6; have ok7 := D6.ok; have F7 := F6.step0 D6.stp; have q27 := D6.dn 1 rfl rfl; clear D6; refine tn ?_; refine wp_ret ?_; refine br ?_; refine tr ?_; refine tr ?_; refine br ?_; refine tr ?_
    exact ret1 rfl ok7 F7 (cvi (by (exact (indexL_yes (by omega) (by assumption) hno).symm)) q27)
   ·
    refine wp_skip ?_; refine bn ?_; refine tn ?_
    refine rg a7 s5 [(Ty.int (((k : Nat) : Int) + (1 : Int))), (Ty.int (((k : Nat) : Int) + (1 : Int)))] ok6 ⟨?_, ?_, trivial⟩ ?_
    · intro A B E G H; exact rP (y_add (kp (H 8 rfl) E q21) rfl (w64 (by omega) (by omega)))
    · intro A B E G H d0; exact rP (y_move (ed d0 rfl rfl rfl))
    intro a9 s7 D7; have ok8 := D7.ok; have F8 := F6.step0 D7.stp; have q28 := D7.kt q22 rfl; have q29 := D7.kt q23 rfl; have q30 := D7.kt q24 rfl; have q31 := D7.dn 1 rfl rfl; clear D7
    exact tn ⟨xs.length - ((k+1)), by omega, s7, (k+1), rfl, F8, ok8, (cvi (by (first | rfl | omega | (simp_all; done) | (simp_all; omega))) q31), q28, q29, q30, by omega, fun j hj => by (by_cases e : j = k; subst e; exact fun h => c2 h.symm; exact hno j (by omega)), rfl⟩
  ·
   refine wp_exit ?_; refine tx ?_; refine tx ?_; refine bx ?_; refine tn ?_; refine wp_seq ?_
   refine rg a5 s3 [(Ty.int (-1 : Int))] ok4 ⟨?_, trivial⟩ ?_
   · intro A B E G H; exact rP (y_assign rfl)
   intro a10 s8 D8; have ok9 := D8.ok; have F9 := F4.step0 D8.stp; have q32 := D8.dn 0 rfl rfl; clear D8; refine tn ?_; refine wp_ret ?_
   exact ret1 rfl ok9 F9 (cvi (by (exact (indexL_no (fun j hj => hno j (by omega))).symm)) q32)


set_option maxRecDepth 100000 in
theorem contains_fn (xs : List Int) (x : Int) (σ : GW) (v0 v1 : Value) (hv0 : Ty.has (Ty.lst Ty.int xs) σ v0) (hv1 : Ty.has (Ty.int x) σ v1)  :
    FnC Tryd.prog 64 #[v0, v1] σ (Ty.bool (decide (x ∈ xs))) := by
 refine fn_intro Tryd.func64 rfl Tryd.ntmps64 (Nat.le_of_ble_eq_true rfl) (fun s0 a0 hle F0 ok0 hargs => ?_)
 have p0 : At (Ty.lst Ty.int xs) s0 a0 (.tmp 0) := by have e := hargs 0 _ rfl; show Ty.has _ _ _; rw [e]; exact Ty.up _ hle hv0
 have b1 := sl_le p0
 have p1 : At (Ty.int x) s0 a0 (.tmp 1) := by have e := hargs 1 _ rfl; show Ty.has _ _ _; rw [e]; exact Ty.up _ hle hv1
 clear hargs; refine wp_seq ?_
 refine rg a0 s0 [(Ty.bool false)] ok0 ⟨?_, trivial⟩ ?_
 · intro A B E G H; exact rP (y_assign rfl)
 intro a1 s1 D1; have ok1 := D1.ok; have F1 := F0.step0 D1.stp; have q1 := D1.kt p0 rfl; have q2 := D1.kt p1 rfl; clear D1; refine tn ?_; refine wp_seq ?_
 refine rg a1 s1 [(Ty.lst Ty.int xs), (Ty.int x), (Ty.int (indexL xs x)), (Ty.bool (decide ((0 : Int) ≤ (indexL xs x)))), (Ty.bool (decide ((0 : Int) ≤ (indexL xs x))))] ok1 ⟨?_, ?_, ?_, ?_, ?_, trivial⟩ ?_
 · intro A B E G H; exact rP (y_move (kp (H 0 rfl) E q1))
 · intro A B E G H; exact rP (y_move (kp (H 1 rfl) E q2))
 · intro A B E G H d0 d1; exact rP (y_call #[A.eval (.tmp 5), A.eval (.tmp 6)] Tryd.func76 rfl rfl (by simp only [List.map_toArray, List.map_cons, List.map_nil]) (index_fn (xs) (x) _ _ _ (ed d0 rfl rfl rfl) (ed d1 rfl rfl rfl) ))
 · intro A B E G H d0; exact rP (y_geq (ed d0 rfl rfl rfl) rfl)
 · intro A B E G H d0 d1 d2 d3 d4 d5; exact rP (y_assign (ed d0 rfl rfl rfl))
 intro a2 s2 D2; have ok2 := D2.ok; have F2 := F1.step0 D2.stp; have q3 := D2.dn 4 rfl rfl; clear D2; refine tn ?_; refine wp_ret ?_
 exact ret1 rfl ok2 F2 (cvb (by (rw [decide_eq_decide]; exact indexL_iff)) q3)


set_option maxRecDepth 100000 in
theorem pChange_fn (n : Nat) (l : List Int) (σ : GW) (v0 v1 : Value) (hv0 : Ty.has (Ty.nat n) σ v0) (hv1 : Ty.has (Ty.lst Ty.int l) σ v1) (hn : n ≤ 12) (ho : okL 0 l n) :
    FnC Tryd.prog 52 #[v0, v1] σ (Ty.lst Ty.int (chgRow n l)) := by
 refine fn_intro Tryd.func52 rfl Tryd.ntmps52 (Nat.le_of_ble_eq_true rfl) (fun s0 a0 hle F0 ok0 hargs => ?_)
 have p0 : At (Ty.nat n) s0 a0 (.tmp 0) := by have e := hargs 0 _ rfl; show Ty.has _ _ _; rw [e]; exact Ty.up _ hle hv0
 have p1 : At (Ty.lst Ty.int l) s0 a0 (.tmp 1) := by have e := hargs 1 _ rfl; show Ty.has _ _ _; rw [e]; exact Ty.up _ hle hv1
 have b1 := sl_le p1
 clear hargs; refine wp_seq ?_
 refine rg a0 s0 [(Ty.val (Value.slice none 0 0))] ok0 ⟨?_, trivial⟩ ?_
 · intro A B E G H; exact rP (y_assign rfl)
 intro a1 s1 D1; have ok1 := D1.ok; have F1 := F0.step0 D1.stp; have q1 := D1.kt p0 rfl; have q2 := D1.kt p1 rfl; clear D1; refine tn ?_; refine wp_seq ?_
 refine reg (a := a1) (σ := s1) rfl (fun i_ => List.getD [(Ty.pr (Ty.nat n)), (Pr.own 11 3 1 n (List.map Ty.int (List.replicate n 0))), (Pr.own 11 3 1 n (List.map Ty.int (List.replicate n 0)))] i_ Pr.any) ok1 rfl ⟨?_, ?_, ?_, trivial⟩ ?_
 · intro A B E G H; exact rP (y_move (kp (H 0 rfl) E q1))
 · intro A B E G H d0 d1
   have e0 := ed d0 rfl rfl rfl
   exact rP ((y_make (k := 11) (T := Ty.int 0) (n := n) Tryd.underlying26 Tryd.inf3 rfl (fun _ => rfl) e0 e0 (by omega) (by omega)).mono (fun _ _ h => cvo (by simp) (by simp) h))
 · intro A B E G H d0 d1 d2
   have e1 : (Pr.own 11 3 1 n (List.map Ty.int (List.replicate n 0))).has B (A.eval (.tmp 8)) := d0 rfl
   exact rP (y_assign e1)
 intro a2 s2 D2; have ok2 := D2.ok; have F2 := F1.step0 D2.stp; have q3 := D2.kt q1 rfl; have q4 := D2.kt q2 rfl
 have q5 : (Pr.own 11 3 1 n (List.map Ty.int (List.replicate n 0))).has s2 (a2.eval (.tmp 5)) := D2.done 2
 clear D2; refine tn ?_; refine wp_seq ?_; refine wp_seq ?_
 refine rg a2 s2 [(Ty.int (0 : Int))] ok2 ⟨?_, trivial⟩ ?_
 · intro A B E G H; exact rP (y_assign rfl)
 intro a3 s3 D3; have ok3 := D3.ok; have F3 := F2.step0 D3.stp; have q6 := D3.kt q3 rfl; have q7 := D3.kt q4 rfl
 have q8 : (Pr.own 11 3 1 n (List.map Ty.int (List.replicate n 0))).has s3 (a3.eval (.tmp 5)) := D3.ko q5 rfl
 have q9 := D3.dn 0 rfl rfl; clear D3; refine tn ?_; refine wp_block ?_
 refine loop (fun n1 a4 w1 => ∃ (t1 : GW) (xs : List Int) (f : Nat), t1.w = w1 ∧ From s0 t1 ∧ Ok 35 a4 ∧ (Pr.own 11 3 1 (List.length (padTo n xs)) (List.map Ty.int (padTo n xs))).has t1 (a4.eval (.tmp 5)) ∧ At (Ty.nat xs.length) t1 a4 (.tmp 6) ∧ At (Ty.nat n) t1 a4 (.tmp 0) ∧ At (Ty.lst Ty.int l) t1 a4 (.tmp 1) ∧ (AtC n l xs.length) ∧ (n ≤ f + xs.length) ∧ (xs ++ rowF l n f xs.length = chgRow n l) ∧ n1 = n + 1 - xs.length) (n + 1 - (([] : List Int)).length) ?_ ?_
 ·
  exact ⟨s3, ([] : List Int), n, rfl, F3, ok3, (cvo (by (simp [padTo_nil])) (by (simp [padTo_nil])) q8), (cvi (by (first | rfl | omega | (simp_all; done) | (simp_all; omega))) q9), q6, q7, AtC.zero ho, by simp, rfl, rfl⟩
 ·
  rintro n2 a5 w2 ⟨t2, xs, f, rfl, F4, ok4, q10, q11, q12, q13, ha, hf, heq, rfl⟩
  have hal := ha.le
  have hpl := padTo_len hal
  refine wp_seq ?_; refine wp_seq ?_
  refine reg (a := a5) (σ := t2) rfl (fun i_ => List.getD [(Ty.pr (Ty.nat xs.length)), (Ty.pr (Ty.nat n)), (Ty.pr (Ty.bool (decide (((xs.length : Nat) : Int) < ((n : Nat) : Int)))))] i_ Pr.any) ok4 rfl ⟨?_, ?_, ?_, trivial⟩ ?_
  · intro A B E G H; exact rP (y_move (kp (H 6 rfl) E q11))
  · intro A B E G H; exact rP (y_move (kp (H 0 rfl) E q12))
  · intro A B E G H d0 d1; exact rP (y_lss (ed d0 rfl rfl rfl) (ed d1 rfl rfl rfl))
  intro a6 s4 D4; have ok5 := D4.ok; have F5 := F4.step0 D4.stp
  have q14 : (Pr.own 11 3 1 (List.length (padTo n xs)) (List.map Ty.int (padTo n xs))).has s4 (a6.eval (.tmp 5)) := D4.ko q10 rfl
  have q15 := D4.kt q11 rfl; have q16 := D4.kt q12 rfl; have q17 := D4.kt q13 rfl; have q18 := D4.dn 2 rfl rfl; clear D4; refine tn ?_
  refine cond_p (p := (((xs.length : Nat) : Int) < ((n : Nat) : Int))) q18 (fun c1 => ?_) (fun c1 => ?_)
  ·
   refine wp_skip ?_; refine tn ?_; refine wp_seq ?_; refine wp_block ?_; refine wp_seq ?_; refine wp_seq ?_
   refine rg a6 s4 [(Ty.lst Ty.int l), (Ty.nat xs.length), (Ty.int (((xs.length : Nat) : Int) + (1 : Int))), (Ty.bool (decide (((((xs.length : Nat) : Int) + (1 : Int))) ∈ (l))))] ok5 ⟨?_, ?_, ?_, ?_, trivial⟩ ?_
   · intro A B E G H; exact rP (y_move (kp (H 1 rfl) E q17))
   · intro A B E G H; exact rP (y_move (kp (H 6 rfl) E q15))
   · intro A B E G H d0; exact rP (y_add (ed d0 rfl rfl rfl) rfl (w64 (by omega) (by omega)))
   · intro A B E G H d0 d1; exact rP (y_call #[A.eval (.tmp 14), A.eval (.tmp 16)] Tryd.func64 rfl rfl (by simp only [List.map_toArray, List.map_cons, List.map_nil]) (contains_fn (l) ((((xs.length : Nat) : Int) + (1 : Int))) _ _ _ (ed d0 rfl rfl rfl) (ed d1 rfl rfl rfl) ))
   intro a7 s5 D5; have ok6 := D5.ok; have F6 := F5.step0 D5.stp
   have q19 : (Pr.own 11 3 1 (List.length (padTo n xs)) (List.map Ty.int (padTo n xs))).has s5 (a7.eval (.tmp 5)) := D5.ko q14 rfl
   have q20 := D5.kt q15 rfl; have q21 := D5.kt q16 rfl; have q22 := D5.kt q17 rfl; have q23 := D5.dn 3 rfl rfl; clear D5; refine tn ?_
   refine cond_t q23 (fun c2 => ?_) (fun c2 => ?_)
   ·
    have c2 := of_decide_eq_true c2
    refine wp_seq ?_
    refine reg2 (a := a7) (σ := s5) rfl 4 (fun i_ => List.getD [(Ty.pr (Ty.val (a7.eval (.tmp 5)))), (Ty.pr (Ty.nat xs.length)), (Ty.pr (Ty.nat xs.length)), (Ty.pr (Ty.val (cellPtr (a7.eval (.tmp 5)) xs.length)))] i_ Pr.any) ok6 rfl (by decide) rfl ⟨?_, ?_, ?_, ?_, trivial⟩ ?_
    · intro A B E G H; exact rP (y_move (H 5 rfl))
    · intro A B E G H; exact rP (y_move (kp (H 6 rfl) E q20))
    · intro A B E G H; exact rP (y_move (kp (H 6 rfl) E q20))
    · intro A B E G H d0 d1 d2 d3 d4; exact rP (own_index1 (i := ((xs.length : Nat) : Int)) Tryd.underlying26 Tryd.inf3 ((Pr.own 11 3 1 (List.length (padTo n xs)) (List.map Ty.int (padTo n xs))).up E q19) (ed d0 rfl rfl rfl) (ed d1 rfl rfl rfl) (by omega) (by omega))
    intro a8 s6 D6; have ok7 := D6.ok; have F7 := F6.step0 D6.stp; have q24 := (Pr.own 11 3 1 (List.length (padTo n xs)) (List.map Ty.int (padTo n xs))).up D6.stp q19
    have q25 : a8.eval (.tmp 5) = a7.eval (.tmp 5) := D6.same 5 rfl
    have q26 := D6.kt q20 rfl; have q27 := D6.kt q21 rfl; have q28 := D6.kt q22 rfl; have q29 := D6.dn 2 (by decide) rfl rfl; have q30 := D6.dn 3 (by decide) rfl rfl; clear D6
    refine tail_step0 (m := 11) (R := (fun _ τ => Own τ 11 3 1 (a7.eval (.tmp 5)) (List.length (padTo n xs)) ((List.map Ty.int (padTo n xs)).set xs.length (Ty.nat xs.length)))) rfl rfl (m_store Tryd.inf3 (by decide) q24 q30 (by simp only [List.length_map, List.length_set]; omega) q29 (one_val rfl)) (fun v1 s7 hs1 r1 => ?_)
    have F8 := F7.step hs1 (by decide)
    have q31 : At (Ty.nat xs.length) s7 a8 (.tmp 6) := kpm hs1 (by decide) rfl q26
    have q32 : At (Ty.nat n) s7 a8 (.tmp 0) := kpm hs1 (by decide) rfl q27
    have q33 : At (Ty.lst Ty.int l) s7 a8 (.tmp 1) := kpm hs1 (by decide) rfl q28
    have q34 : At (Ty.nat xs.length) s7 a8 (.tmp 20) := kpm hs1 (by decide) rfl q29
    have q35 : (Pr.own 11 3 1 (List.length ((padTo n xs).set xs.length ((xs.length : Nat) : Int))) (List.map Ty.int ((padTo n xs).set xs.length ((xs.length : Nat) : Int)))).has s7 (a7.eval (.tmp 5)) := (cvo (by simp) (by simp) r1)
    refine wpList_nil ?_
    have q36 : (Pr.own 11 3 1 (List.length ((padTo n xs).set xs.length ((xs.length : Nat) : Int))) (List.map Ty.int ((padTo n xs).set xs.length ((xs.length : Nat) : Int)))).has s7 (a8.eval (.tmp 5)) := al q25 q35
    refine tn ?_; refine wp_exit ?_; refine tx ?_; refine bx ?_; refine tn ?_
    refine rg a8 s7 [(Ty.nat xs.length), (Ty.int (((xs.length : Nat) : Int) + (1 : Int))), (Ty.int (((xs.length : Nat) : Int) + (1 : Int)))] ok7 ⟨?_, ?_, ?_, trivial⟩ ?_
    · intro A B E G H; exact rP (y_move (kp (H 6 rfl) E q31))
    · intro A B E G H d0; exact rP (y_add (ed d0 rfl rfl rfl) rfl (w64 (by omega) (by omega)))
    · intro A B E G H d0 d1 d2; exact rP (y_assign (ed d0 rfl rfl rfl))
    intro a10 s8 D7; have ok9 := D7.ok; have F9 := F8.step0 D7.stp
    have q37 : (Pr.own 11 3 1 (List.length ((padTo n xs).set xs.length ((xs.length : Nat) : Int))) (List.map Ty.int ((padTo n xs).set xs.length ((xs.length : Nat) : Int)))).has s8 (a10.eval (.tmp 5)) := D7.ko q36 rfl
    have q38 := D7.kt q32 rfl; have q39 := D7.kt q33 rfl; have q40 := D7.dn 2 rfl rfl; clear D7
    exact tn ⟨n + 1 - ((xs ++ [((xs.length : Nat) : Int)])).length, by simp; omega, s8, (xs ++ [((xs.length : Nat) : Int)]), (f-1), rfl, F9, ok9, (cvo (by (rw [padTo_set (by omega) _ (by first | rfl | omega)])) (by (rw [padTo_set (by omega) _ (by first | rfl | omega)])) q37), (cvi (by (simp)) q40), q38, q39, by rw [List.length_append]; exact ha.yes c2, by simp; omega, by rw [List.length_append]; exact rowF_yes heq (by omega) hf c2, rfl⟩
   ·
    have c2 := of_decide_eq_false c2; have han := ha.no (by omega) c2
    refine wp_skip ?_; refine tn ?_; refine wp_seq ?_
    refine reg2 (a := a7) (σ := s5) rfl 9 (fun i_ => List.getD [(Ty.pr (Ty.val (a7.eval (.tmp 5)))), (Ty.pr (Ty.nat xs.length)), (Ty.pr (Ty.val (a7.eval (.tmp 5)))), (Ty.pr (Ty.nat xs.length)), (Ty.pr (Ty.int (((xs.length : Nat) : Int) + (1 : Int)))), (Ty.pr (Ty.nat xs.length)), (Ty.pr (Ty.int (((xs.length : Nat) : Int) + (1 : Int)))), (Ty.pr (Ty.nat xs.length)), (Ty.pr (Ty.val (cellPtr (a7.eval (.tmp 5)) xs.length)))] i_ Pr.any) ok6 rfl (by decide) rfl ⟨?_, ?_, ?_, ?_, ?_, ?_, ?_, ?_, ?_, trivial⟩ ?_
    · intro A B E G H; exact rP (y_move (H 5 rfl))
    · intro A B E G H; exact rP (y_move (kp (H 6 rfl) E q20))
    · intro A B E G H d0; exact rP (y_move (H 5 rfl))
    · intro A B E G H d0; exact rP (y_move (kp (H 6 rfl) E q20))
    · intro A B E G H d0 d1; exact rP (y_add (ed d0 rfl rfl rfl) rfl (w64 (by omega) (by omega)))
    · intro A B E G H; exact rP (y_move (kp (H 6 rfl) E q20))
    · intro A B E G H d0; exact rP (y_add (ed d0 rfl rfl rfl) rfl (w64 (by omega) (by omega)))
    · intro A B E G H d0; exact rP (y_move (kp (H 6 rfl) E q20))
    · intro A B E G H d0 d1 d2 d3 d4 d5 d6 d7 d8 d9; exact rP (own_index1 (i := ((xs.length : Nat) : Int)) Tryd.underlying26 Tryd.inf3 ((Pr.own 11 3 1 (List.length (padTo n xs)) (List.map Ty.int (padTo n xs))).up E q19) (ed d0 rfl rfl rfl) (ed d1 rfl rfl rfl) (by omega) (by omega))
    intro a11 s9 D8; have ok10 := D8.ok; have F10 := F6.step0 D8.stp; have q41 := (Pr.own 11 3 1 (List.length (padTo n xs)) (List.map Ty.int (padTo n xs))).up D8.stp q19
    have q42 : a11.eval (.tmp 5) = a7.eval (.tmp 5) := D8.same 5 rfl
    have q43 := D8.kt q20 rfl; have q44 := D8.kt q21 rfl; have q45 := D8.kt q22 rfl; have q46 := D8.dn 2 (by decide) rfl rfl; have q47 := D8.dn 4 (by decide) rfl rfl; have q48 := D8.dn 6 (by decide) rfl rfl; have q49 := D8.dn 7 (by decide) rfl rfl; have q50 := D8.dn 8 (by decide) rfl rfl; clear D8
    refine tail_step0 (m := 11) (R := (fun _ τ => Own τ 11 3 1 (a7.eval (.tmp 5)) (List.length (padTo n xs)) ((List.map Ty.int (padTo n xs)).set xs.length (Ty.int (((xs.length : Nat) : Int) + (1 : Int)))))) rfl rfl (m_store Tryd.inf3 (by decide) q41 q50 (by simp only [List.length_map, List.length_set]; omega) q48 (one_val rfl)) (fun v2 s10 hs2 r2 => ?_)
    have F11 := F10.step hs2 (by decide)
    have q51 : At (Ty.nat xs.length) s10 a11 (.tmp 6) := kpm hs2 (by decide) rfl q43
    have q52 : At (Ty.nat n) s10 a11 (.tmp 0) := kpm hs2 (by decide) rfl q44
    have q53 : At (Ty.lst Ty.int l) s10 a11 (.tmp 1) := kpm hs2 (by decide) rfl q45
    have q54 : At (Ty.int (((xs.length : Nat) : Int) + (1 : Int))) s10 a11 (.tmp 26) := kpm hs2 (by decide) rfl q47
    have q55 : At (Ty.int (((xs.length : Nat) : Int) + (1 : Int))) s10 a11 (.tmp 28) := kpm hs2 (by decide) rfl q48
    have q56 : At (Ty.nat xs.length) s10 a11 (.tmp 29) := kpm hs2 (by decide) rfl q49
    have q57 : (Pr.own 11 3 1 (List.length ((padTo n xs).set xs.length (((xs.length : Nat) : Int) + (1 : Int)))) (List.map Ty.int ((padTo n xs).set xs.length (((xs.length : Nat) : Int) + (1 : Int))))).has s10 (a7.eval (.tmp 5)) := (cvo (by simp) (by simp) r2)
    refine tail_step (m := 0) (R := (fun v τ => Pr.has (Ty.pr (Ty.val (cellPtr (a7.eval (.tmp 5)) ((((xs.length : Nat) : Int) + (1 : Int))).toNat))) τ v)) rfl rfl (by decide) ok10 (Yld.toM (own_index1 (i := (((xs.length : Nat) : Int) + (1 : Int))) Tryd.underlying26 Tryd.inf3 q57 q46 q54 (by omega) (by simp only [List.length_set]; omega))) (fun a13 s11 hs3 ok12 r3 sm3 => ?_)
    have F12 := F11.step hs3 (by decide); have q58 := Own.keep q57 hs3 (by decide) (.inl rfl); have q59 := (sm3 5 (by decide)).trans q42
    have q60 : At (Ty.nat xs.length) s11 a13 (.tmp 6) := kpm hs3 (by decide) (sm3 6 (by decide)) q51
    have q61 : At (Ty.nat n) s11 a13 (.tmp 0) := kpm hs3 (by decide) (sm3 0 (by decide)) q52
    have q62 : At (Ty.lst Ty.int l) s11 a13 (.tmp 1) := kpm hs3 (by decide) (sm3 1 (by decide)) q53
    have q63 := (sm3 24 (by decide)).trans q46
    have q64 : At (Ty.int (((xs.length : Nat) : Int) + (1 : Int))) s11 a13 (.tmp 26) := kpm hs3 (by decide) (sm3 26 (by decide)) q54
    have q65 : At (Ty.int (((xs.length : Nat) : Int) + (1 : Int))) s11 a13 (.tmp 28) := kpm hs3 (by decide) (sm3 28 (by decide)) q55
    have q66 : At (Ty.nat xs.length) s11 a13 (.tmp 29) := kpm hs3 (by decide) (sm3 29 (by decide)) q56
    have q67 := (sm3 30 (by decide)).trans q50
    have q68 : At (Ty.val (cellPtr (a7.eval (.tmp 5)) ((((xs.length : Nat) : Int) + (1 : Int))).toNat)) s11 a13 (.tmp 31) := r3
    refine tail_step0 (m := 11) (R := (fun _ τ => Own τ 11 3 1 (a7.eval (.tmp 5)) (List.length ((padTo n xs).set xs.length (((xs.length : Nat) : Int) + (1 : Int)))) ((List.map Ty.int ((padTo n xs).set xs.length (((xs.length : Nat) : Int) + (1 : Int)))).set ((((xs.length : Nat) : Int) + (1 : Int))).toNat (Ty.nat xs.length)))) rfl rfl (m_store Tryd.inf3 (by decide) q58 q68 (by simp only [List.length_map, List.length_set]; omega) q66 (one_val rfl)) (fun v3 s12 hs4 r4 => ?_)
    have F13 := F12.step hs4 (by decide)
    have q69 : At (Ty.nat xs.length) s12 a13 (.tmp 6) := kpm hs4 (by decide) rfl q60
    have q70 : At (Ty.nat n) s12 a13 (.tmp 0) := kpm hs4 (by decide) rfl q61
    have q71 : At (Ty.lst Ty.int l) s12 a13 (.tmp 1) := kpm hs4 (by decide) rfl q62
    have q72 : At (Ty.int (((xs.length : Nat) : Int) + (1 : Int))) s12 a13 (.tmp 26) := kpm hs4 (by decide) rfl q64
    have q73 : At (Ty.int (((xs.length : Nat) : Int) + (1 : Int))) s12 a13 (.tmp 28) := kpm hs4 (by decide) rfl q65
    have q74 : At (Ty.nat xs.length) s12 a13 (.tmp 29) := kpm hs4 (by decide) rfl q66
    have q75 : (Pr.own 11 3 1 (List.length (((padTo n xs).set xs.length (((xs.length : Nat) : Int) + (1 : Int))).set ((((xs.length : Nat) : Int) + (1 : Int))).toNat ((xs.length : Nat) : Int))) (List.map Ty.int (((padTo n xs).set xs.length (((xs.length : Nat) : Int) + (1 : Int))).set ((((xs.length : Nat) : Int) + (1 : Int))).toNat ((xs.length : Nat) : Int)))).has s12 (a7.eval (.tmp 5)) := (cvo (by simp) (by simp) r4)
    refine wpList_nil ?_
    have q76 : (Pr.own 11 3 1 (List.length (((padTo n xs).set xs.length (((xs.length : Nat) : Int) + (1 : Int))).set ((((xs.length : Nat) : Int) + (1 : Int))).toNat ((xs.length : Nat) : Int))) (List.map Ty.int (((padTo n xs).set xs.length (((xs.length : Nat) : Int) + (1 : Int))).set ((((xs.length : Nat) : Int) + (1 : Int))).toNat ((xs.length : Nat) : Int)))).has s12 (a13.eval (.tmp 5)) := al q59 q75
    refine tn ?_
    refine rg a13 s12 [(Ty.nat xs.length), (Ty.int (((xs.length : Nat) : Int) + (1 : Int))), (Ty.int (((xs.length : Nat) : Int) + (1 : Int)))] ok12 ⟨?_, ?_, ?_, trivial⟩ ?_
    · intro A B E G H; exact rP (y_move (kp (H 6 rfl) E q69))
    · intro A B E G H d0; exact rP (y_add (ed d0 rfl rfl rfl) rfl (w64 (by omega) (by omega)))
    · intro A B E G H d0 d1 d2; exact rP (y_assign (ed d0 rfl rfl rfl))
    intro a15 s13 D9; have ok14 := D9.ok; have F14 := F13.step0 D9.stp
    have q77 : (Pr.own 11 3 1 (List.length (((padTo n xs).set xs.length (((xs.length : Nat) : Int) + (1 : Int))).set ((((xs.length : Nat) : Int) + (1 : Int))).toNat ((xs.length : Nat) : Int))) (List.map Ty.int (((padTo n xs).set xs.length (((xs.length : Nat) : Int) + (1 : Int))).set ((((xs.length : Nat) : Int) + (1 : Int))).toNat ((xs.length : Nat) : Int)))).has s13 (a15.eval (.tmp 5)) := D9.ko q76 rfl
    have q78 := D9.kt q70 rfl; have q79 := D9.kt q71 rfl; have q80 := D9.dn 2 rfl rfl; clear D9; refine bn ?_; refine tn ?_
    refine rg a15 s13 [(Ty.int (((xs.length : Nat) : Int) + (1 : Int))), (Ty.int ((((xs.length : Nat) : Int) + (1 : Int)) + (1 : Int))), (Ty.int ((((xs.length : Nat) : Int) + (1 : Int)) + (1 : Int)))] ok14 ⟨?_, ?_, ?_, trivial⟩ ?_
    · intro A B E G H; exact rP (y_move (kp (H 6 rfl) E q80))
    · intro A B E G H d0; exact rP (y_add (ed d0 rfl rfl rfl) rfl (w64 (by omega) (by omega)))
    · intro A B E G H d0 d1 d2; exact rP (y_assign (ed d0 rfl rfl rfl))
    intro a16 s14 D10; have ok15 := D10.ok; have F15 := F14.step0 D10.stp
    have q81 : (Pr.own 11 3 1 (List.length (((padTo n xs).set xs.length (((xs.length : Nat) : Int) + (1 : Int))).set ((((xs.length : Nat) : Int) + (1 : Int))).toNat ((xs.length : Nat) : Int))) (List.map Ty.int (((padTo n xs).set xs.length (((xs.length : Nat) : Int) + (1 : Int))).set ((((xs.length : Nat) : Int) + (1 : Int))).toNat ((xs.length : Nat) : Int)))).has s14 (a16.eval (.tmp 5)) := D10.ko q77 rfl
    have q82 := D10.kt q78 rfl; have q83 := D10.kt q79 rfl; have q84 := D10.dn 2 rfl rfl; clear D10
    exact tn ⟨n + 1 - ((xs ++ [((xs.length : Nat) : Int) + 1, ((xs.length : Nat) : Int)])).length, by simp; omega, s14, (xs ++ [((xs.length : Nat) : Int) + 1, ((xs.length : Nat) : Int)]), (f-1), rfl, F15, ok15, (cvo (by (rw [padTo_set (by omega) _ (by omega), padTo_set (by simp; omega) _ (by simp)]; simp)) (by (rw [padTo_set (by omega) _ (by omega), padTo_set (by simp; omega) _ (by simp)]; simp)) q81), (cvi (by (simp; omega)) q84), q82, q83, by rw [List.length_append]; exact han.2, by simp; omega, by rw [List.length_append]; exact rowF_no heq (by omega) hf c2, rfl⟩
  ·
   refine wp_exit ?_; refine tx ?_; refine tx ?_; refine bx ?_; refine tn ?_; refine wp_seq ?_
   refine rg a6 s4 [(Ty.val (a6.eval (.tmp 5))), (Ty.val (a6.eval (.tmp 5)))] ok5 ⟨?_, ?_, trivial⟩ ?_
   · intro A B E G H; exact rP (y_move (H 5 rfl))
   · intro A B E G H d0 d1; exact rP (y_assign (ed d0 rfl rfl rfl))
   intro a17 s15 D11; have ok16 := D11.ok; have F16 := F5.step0 D11.stp
   have q85 : (Pr.own 11 3 1 (List.length (padTo n xs)) (List.map Ty.int (padTo n xs))).has s15 (a17.eval (.tmp 4)) := al (show _ = _ from D11.done 1) ((Pr.own 11 3 1 (List.length (padTo n xs)) (List.map Ty.int (padTo n xs))).up D11.stp q14)
   clear D11; refine tn ?_; refine wp_ret ?_
   obtain ⟨t3, e1, h1, q86⟩ := Own.seal q85 (by decide)
   rw [← e1]
   have F17 := F16.step h1 (by decide)
   exact ret1 rfl ok16 F17 (cvt (by (rw [rowF_end (by omega), List.append_nil] at heq; rw [heq, padTo_full (chgRow_len ho)])) q86)


end Go.Proofs.YtbilebfnanlgfaaDoor
