/- The functions that the law ExtentMade reaches, each by its contract. Part 1. -/
import Derived.Test.YtkjifbgofckfeaaExtentMadeK1
import Derived.Test.YtkjifbgofckfeaaExtentMadeK3
import Derived.Test.YtkjifbgofckfeaaExtentMadeK2
import Derived.Test.YtkjifbgofckfeaaExtentMadeKeysG
import Derived.Test.YtkjifbgofckfeaaExtentMadeCmpG
import Derived.Test.YtkjifbgofckfeaaProg
namespace Go.Proofs.Ytkjifbgofckfeaa
open Go.KL

set_option maxRecDepth 100000 in
theorem pick_fn (c : Int) (n : Nat) (σ : GW) (v0 v1 : Value) (hv0 : Ty.has (Ty.int c) σ v0) (hv1 : Ty.has (Ty.nat n) σ v1) (hc : -9223372036854775808 ≤ c ∧ c ≤ 9223372036854775807) (hn : 0 < n) :
    FnC Try.prog 15 #[v0, v1] σ (Ty.nat (pick c n)) := by
 refine fn_intro Try.func15 rfl Try.ntmps15 (Nat.le_of_ble_eq_true rfl) (fun s0 a0 hle F0 ok0 hargs => ?_)
 have p0 := pA hle (hargs 0 _ rfl) hv0
 have p1 := pA hle (hargs 1 _ rfl) hv1
 clear hargs; refine wp_seq ?_
 refine gI a0 s0 ok0 (gC (Ty.int (0 : Int)) (gE ok0 fun a1 s1 ok1 D1 => ?_)); have q1 := D1.kt p0 rfl; refine tn (wp_seq (wp_seq ?_))
 refine gI a1 s1 ok1 (gM q1 (gS rfl (fun A B E G H d0 => rP (y_lss (ed d0 rfl rfl rfl) rfl)) (gE ok1 fun a2 s2 ok2 D2 => ?_))); have F2 := (F0.step0 D1.stp).step0 D2.stp; have q3 := D2.kt q1 rfl; have q4 := D2.kt (D1.kt p1 rfl) rfl; refine tn ?_
 refine cond_p (p := (c < (0 : Int))) (D2.dn 1 rfl rfl) (fun c1 => ?_) (fun c1 => ?_)
 ·
  refine gI a2 s2 ok2 (gM q3 (gT (Ty.int (c + (1 : Int))) rfl (fun A B E G H d0 => rP (y_add (ed d0 rfl rfl rfl) rfl (w64 (by omega) (by omega)))) (gT (Ty.int (-(c + (1 : Int)))) rfl (fun A B E G H d0 => rP (y_neg (ed d0 rfl rfl rfl) (w64 (by omega) (by omega)))) (gB 0 (gE ok2 fun a3 s3 ok3 D3 => ?_))))); refine tn (wp_seq ?_)
  refine gI a3 s3 ok3 (gM (D3.dn 3 rfl rfl) (gM (D3.kt q4 rfl) (gT (Ty.nat (((-(c + (1 : Int)))).toNat % n)) rfl (fun A B E G H d0 d1 => rP (y_remN (toN (σ := B) (ed d0 rfl rfl rfl) (by omega)) (ed d1 rfl rfl rfl) (by omega))) (gB 0 (gE ok3 fun a4 s4 ok4 D4 => ?_))))); refine tn (wp_ret ?_)
  exact ret1 rfl ok4 ((F2.step0 D3.stp).step0 D4.stp) (cvi (by (unfold pick; rw [if_pos (by assumption)])) (D4.dn 3 rfl rfl))
 ·
  refine wp_skip (tn (wp_seq ?_))
  refine gI a2 s2 ok2 (gM q3 (gM q4 (gT (Ty.nat ((c).toNat % n)) rfl (fun A B E G H d0 d1 => rP (y_remN (toN (σ := B) (ed d0 rfl rfl rfl) (by omega)) (ed d1 rfl rfl rfl) (by omega))) (gB 0 (gE ok2 fun a5 s5 ok5 D5 => ?_))))); refine tn (wp_ret ?_)
  exact ret1 rfl ok5 (F2.step0 D5.stp) (cvi (by (unfold pick; rw [if_neg (by assumption)])) (D5.dn 3 rfl rfl))


set_option maxHeartbeats 4000000 in
set_option maxRecDepth 100000 in
theorem rFact_fn : ∀ (m : Nat) (n : Nat) (σ : GW)  (v0 : Value) (hv0 : Ty.has (Ty.nat n) σ v0)  (hm : m = n) (hn : n ≤ 12), FnC Try.prog 58 #[v0] σ (Ty.nat (fct n)) := by
 intro m
 induction m using Nat.strongRecOn with
 | _ m ih =>
 intro n σ v0 hv0 hm hn
 refine fn_intro0 Try.func58 rfl Try.ntmps58 (Nat.le_of_ble_eq_true rfl) (fun s0 a0 hle F0 ok0 hargs => ?_)
 have p0 := pA hle (hargs 0 _ rfl) hv0
 clear hargs; refine wp_seq ?_
 refine gI a0 s0 ok0 (gC (Ty.int (0 : Int)) (gE ok0 fun a1 s1 ok1 D1 => ?_)); have q1 := D1.kt p0 rfl; refine tn (wp_seq (wp_seq ?_))
 refine gI a1 s1 ok1 (gM q1 (gS rfl (fun A B E G H d0 => rP (y_lss (ed d0 rfl rfl rfl) rfl)) (gE ok1 fun a2 s2 ok2 D2 => ?_))); have F2 := (F0.step0 D1.stp).step0 D2.stp; have q2 := D2.kt q1 rfl; refine tn ?_
 refine cond_p (p := (((n : Nat) : Int) < (2 : Int))) (D2.dn 1 rfl rfl) (fun c1 => ?_) (fun c1 => ?_)
 ·
  refine wp_seq ?_
  refine gI a2 s2 ok2 (gC (Ty.int (1 : Int)) (gE ok2 fun a3 s3 ok3 D3 => ?_)); refine tn (wp_ret (tr ?_))
  exact retL1 rfl ok3 (F2.step0 D3.stp) (cvi (by (rw [fct_small (by omega)]; rfl)) (D3.dn 0 rfl rfl))
 ·
  have hm2 : ((n : Nat) : Int) * ((fct (n - 1) : Nat) : Int) ≤ 479001600 ∧ 0 ≤ ((n : Nat) : Int) * ((fct (n - 1) : Nat) : Int) := (by have h1 := fct_le12 hn; have h2 := fct_rec (n := n) (by omega); rw [← Int.natCast_mul]; omega)
  refine wp_skip (tn (wp_seq ?_))
  refine gI a2 s2 ok2 (gM q2 (gM q2 (gT (Ty.nat (n - 1)) rfl (fun A B E G H d0 => rP ((y_sub (ed d0 rfl rfl rfl) rfl (w64 (by omega) (by omega))).mono (fun τ _ h => cvi (σ := τ) (by omega) h))) (gS rfl (fun A B E G H d0 => rP (y_call _ Try.func58 rfl rfl my1 (ih (((n - 1))) (by omega) ((n - 1)) _ _ (cvi (σ := B) (by omega) (ed d0 rfl rfl rfl)) (by omega) (by omega)))) (gT (Ty.nat (n * (fct ((n - 1))))) rfl (fun A B E G H d0 d1 => rP ((y_mul (ed d0 rfl rfl rfl) (ed d1 rfl rfl rfl) (w64 (by omega) (by omega))).mono (fun τ _ h => cvi (σ := τ) (by first | omega | exact (Int.natCast_mul _ _).symm) h))) (gB 0 (gE ok2 fun a4 s4 ok4 D4 => ?_))))))); refine tn (wp_ret ?_)
  exact retL1 rfl ok4 (F2.step0 D4.stp) (cvi (by (rw [fct_rec (by omega)])) (D4.dn 5 rfl rfl))

theorem Try.inf3 : Info Try.prog 3 (.int .i64 0) 1 8 := by unfold Info; kernel_rfl
set_option maxRecDepth 100000 in
theorem rRounds_fn (n : Nat) (σ : GW) (v0 : Value) (hv0 : Ty.has (Ty.nat n) σ v0) (hn : n ≤ 1000000) :
    FnC Try.prog 39 #[v0] σ (Ty.lst Ty.int (roundsL n)) := by
 refine fn_intro Try.func39 rfl Try.ntmps39 (Nat.le_of_ble_eq_true rfl) (fun s0 a0 hle F0 ok0 hargs => ?_)
 have p0 := pA hle (hargs 0 _ rfl) hv0
 clear hargs; refine wp_seq ?_
 refine gI a0 s0 ok0 (gC (Ty.val (Value.slice none 0 0)) (gE ok0 fun a1 s1 ok1 D1 => ?_)); refine tn (wp_seq ?_)
 refine gI a1 s1 ok1 (gC (Ty.val (Value.slice none 0 0)) (gE ok1 fun a2 s2 ok2 D2 => ?_)); refine tn (wp_seq (wp_seq ?_))
 refine gI a2 s2 ok2 (gC (Ty.int (0 : Int)) (gE ok2 fun a3 s3 ok3 D3 => ?_)); refine tn (wp_block ?_)
 refine loop (fun n1 a4 w1 => ∃ (t1 : GW) (k : Nat), t1.w = w1 ∧ From s0 t1 ∧ Ok 15 [] a4 ∧ (Pr.own 2 3 1 (List.length (roundsL k)) (List.map Ty.int (roundsL k))).has t1 (a4.eval (.tmp 3)) ∧ At (Ty.nat k) t1 a4 (.tmp 4) ∧ At (Ty.nat n) t1 a4 (.tmp 0) ∧ (k ≤ n) ∧ n1 = n - k) (n - (0)) ?_ ?_
 ·
  exact ⟨s3, 0, rfl, (((F0.step0 D1.stp).step0 D2.stp).step0 D3.stp), ok3, (by have e : a3.eval (.tmp 3) = _ := (D3.kt (D2.dn 0 rfl rfl) rfl); rw [e]; exact Own.nil _ _ _ _), (cvi (by (first | rfl | omega | (simp_all; done) | (simp_all; omega))) (D3.dn 0 rfl rfl)), (D3.kt (D2.kt (D1.kt p0 rfl) rfl) rfl), by omega, rfl⟩
 ·
  rintro n2 a5 w2 ⟨t2, k, rfl, F4, ok4, q7, q8, q9, hk, rfl⟩
  have hp := roundsL_len k
  refine wp_seq (wp_seq ?_)
  refine gI a5 t2 ok4 (gM q8 (gM q9 (gS rfl (fun A B E G H d0 d1 => rP (y_lss (ed d0 rfl rfl rfl) (ed d1 rfl rfl rfl))) (gE ok4 fun a6 s4 ok5 D4 => ?_)))); have F5 := F4.step0 D4.stp
  have q10 : (Pr.own 2 3 1 (List.length (roundsL k)) (List.map Ty.int (roundsL k))).has s4 (a6.eval (.tmp 3)) := D4.ko q7 rfl
  have q11 := D4.kt q8 rfl; refine tn ?_
  refine cond_p (p := (((k : Nat) : Int) < ((n : Nat) : Int))) (D4.dn 2 rfl rfl) (fun c1 => ?_) (fun c1 => ?_)
  ·
   refine wp_skip (tn (wp_seq (wp_block ?_)))
   refine gI a6 s4 ok5 (gT (Ty.val (a6.eval (.tmp 3))) rfl (fun A B E G H => rP (y_move (H 3 rfl))) (gM q11 (gT (Ty.sl 1 1 [(Ty.nat k)]) rfl (fun A B E G H d0 => rP (y_build1o Try.underlying22 Try.inf3 rfl (one_val rfl) (ed d0 rfl rfl rfl))) (gE2 ok5 fun a7 s5 ok6 D5 => ?_)))); have q14 := (Pr.own 2 3 1 (List.length (roundsL k)) (List.map Ty.int (roundsL k))).up D5.stp q10
   have q15 : a7.eval (.tmp 3) = a6.eval (.tmp 3) := D5.same 3 rfl
   have q19 := D5.dn 2 (by decide) rfl rfl
   refine tail_step (m := 2) (R := (fun v τ => Own τ 2 3 1 v ((List.length (roundsL k)) + 1) ((List.map Ty.int (roundsL k)) ++ [(Ty.nat k)]))) rfl rfl (by decide) ok6 (m_append Try.underlying22 Try.inf3 (by decide) rfl (by decide) (al (D5.dn 0 (by decide) rfl rfl) q14) q19 (by intro U hU; simp at hU;  subst hU; exact one_val rfl) (by omega) (by omega)) (fun a8 s6 hs1 ok7 r1 sm1 => ?_)
   have F7 := (F5.step0 D5.stp).step hs1 (by decide)
   have q20 : At (Ty.nat k) s6 a8 (.tmp 4) := kpm hs1 (by decide) (sm1 4 (by decide)) (D5.kt q11 rfl)
   have q21 : At (Ty.nat n) s6 a8 (.tmp 0) := kpm hs1 (by decide) (sm1 0 (by decide)) (D5.kt (D4.kt q9 rfl) rfl)
   have q22 : At (Ty.sl 1 1 [(Ty.nat k)]) s6 a8 (.tmp 12) := kpm hs1 (by decide) (sm1 12 (by decide)) q19
   have q23 : (Pr.own 2 3 1 (List.length ((roundsL k) ++ [((k : Nat) : Int)])) (List.map Ty.int ((roundsL k) ++ [((k : Nat) : Int)]))).has s6 (a8.eval (.tmp 13)) := (cvo (by simp) (by first | (rw [List.map_append]; rfl) | simp) r1)
   refine tail_step (m := 0) (R := (fun v τ => Pr.has (Pr.own 2 3 1 (List.length ((roundsL k) ++ [((k : Nat) : Int)])) (List.map Ty.int ((roundsL k) ++ [((k : Nat) : Int)]))) τ v)) rfl rfl (by decide) ok7 (Yld.toM (y_assign q23)) (fun a9 s7 hs2 ok8 r2 sm2 => ?_)
   have F8 := F7.step hs2 (by decide)
   have q24 : At (Ty.nat k) s7 a9 (.tmp 4) := kpm hs2 (by decide) (sm2 4 (by decide)) q20
   have q25 : At (Ty.nat n) s7 a9 (.tmp 0) := kpm hs2 (by decide) (sm2 0 (by decide)) q21
   have q26 : At (Ty.sl 1 1 [(Ty.nat k)]) s7 a9 (.tmp 12) := kpm hs2 (by decide) (sm2 12 (by decide)) q22
   have q27 : (Pr.own 2 3 1 (List.length ((roundsL k) ++ [((k : Nat) : Int)])) (List.map Ty.int ((roundsL k) ++ [((k : Nat) : Int)]))).has s7 (a9.eval (.tmp 13)) := kpmo hs2 (by decide) (.inl rfl) (sm2 13 (by decide)) q23
   have q28 : (Pr.own 2 3 1 (List.length ((roundsL k) ++ [((k : Nat) : Int)])) (List.map Ty.int ((roundsL k) ++ [((k : Nat) : Int)]))).has s7 (a9.eval (.tmp 3)) := r2
   refine wpList_nil (bn (tn ?_))
   refine gI a9 s7 ok8 (gM q24 (gT (Ty.int (((k : Nat) : Int) + (1 : Int))) rfl (fun A B E G H d0 => rP (y_add (ed d0 rfl rfl rfl) rfl (w64 (by omega) (by omega)))) (gB 0 (gE ok8 fun a10 s8 ok9 D6 => ?_))))
   have q30 : (Pr.own 2 3 1 (List.length ((roundsL k) ++ [((k : Nat) : Int)])) (List.map Ty.int ((roundsL k) ++ [((k : Nat) : Int)]))).has s8 (a10.eval (.tmp 3)) := D6.ko q28 rfl
   exact tn ⟨n - ((k+1)), by omega, s8, (k+1), rfl, (F8.step0 D6.stp), ok9, (cvo (by (rw [roundsL_succ k])) (by (rw [roundsL_succ k])) q30), (cvi (by (first | rfl | omega | (simp_all; done) | (simp_all; omega))) (D6.dn 2 rfl rfl)), (D6.kt q25 rfl), by omega, rfl⟩
  ·
   refine wp_exit (tx (tx (bx (tn (wp_seq ?_)))))
   refine gI a6 s4 ok5 (gT (Ty.val (a6.eval (.tmp 3))) rfl (fun A B E G H => rP (y_move (H 3 rfl))) (gB 0 (gE ok5 fun a11 s9 ok10 D7 => ?_)))
   have q32 : (Pr.own 2 3 1 (List.length (roundsL k)) (List.map Ty.int (roundsL k))).has s9 (a11.eval (.tmp 2)) := al (show _ = _ from D7.done 1) ((Pr.own 2 3 1 (List.length (roundsL k)) (List.map Ty.int (roundsL k))).up D7.stp q10)
   refine tn (wp_ret ?_)
   obtain ⟨t3, e1, h1, q33⟩ := Own.seal q32 (by decide)
   rw [← e1]
   have F11 := (F5.step0 D7.stp).step h1 (by decide)
   exact ret1 rfl ok10 F11 (cvt (by (obtain rfl : k = n := (by omega); rfl)) q33)


set_option maxHeartbeats 4000000 in
set_option maxRecDepth 100000 in
theorem rAt_fn (n : Nat) (k : Nat) (σ : GW)  (v0 v1 : Value) (hv0 : Ty.has (Ty.nat n) σ v0) (hv1 : Ty.has (Ty.nat k) σ v1)  (hn : n ≤ 12) (hk : k < fct n) :
    FnC Try.prog 70 #[v0, v1] σ (Ty.lst Ty.int (atL n k)) := by
 refine fn_intro0 Try.func70 rfl Try.ntmps70 (Nat.le_of_ble_eq_true rfl) (fun s0 a0 hle F0 ok0 hargs => ?_)
 have p0 := pA hle (hargs 0 _ rfl) hv0
 have p1 := pA hle (hargs 1 _ rfl) hv1
 clear hargs; refine wp_seq ?_
 refine gI a0 s0 ok0 (gC (Ty.val (Value.slice none 0 0)) (gE ok0 fun a1 s1 ok1 D1 => ?_)); refine tn (wp_seq ?_)
 refine gI a1 s1 ok1 (gC (Ty.val (Value.slice none 0 0)) (gE ok1 fun a2 s2 ok2 D2 => ?_)); refine tn (wp_seq ?_)
 refine gI a2 s2 ok2 (gM (D2.kt (D1.kt p0 rfl) rfl) (gS rfl (fun A B E G H d0 => rP (y_call _ Try.func39 rfl rfl my1 (rRounds_fn (n) _ _ (ed d0 rfl rfl rfl) (by omega)))) (gB 0 (gE ok2 fun a3 s3 ok3 D3 => ?_)))); refine tn (wp_seq (wp_block ?_))
 have o1 : Own s3 5 3 1 (Value.slice none 0 0) 0 (List.map Ty.int ([] : List Int)) := Own.nil _ _ _ _
 refine loop (fun n1 a4 w1 => ∃ (t1 : GW) (m : Nat) (lf : List Int) (q : Nat) (os : List Int) (x5_0 : Value), t1.w = w1 ∧ FromL [] s0 t1 ∧ Ok 42 [] a4 ∧ At (Ty.lst Ty.int lf) t1 a4 (.tmp 6) ∧ At (Ty.val x5_0) t1 a4 (.tmp 5) ∧ At (Ty.nat q) t1 a4 (.tmp 1) ∧ Own t1 5 3 1 x5_0 (List.length os) (List.map Ty.int os) ∧ (os ++ atF m lf q = atL n k) ∧ (q < fct m) ∧ (lf.length = m) ∧ (os.length + m = n) ∧ n1 = m + 1) ((n) + 1) ?_ ?_
 ·
  exact ⟨s3, n, (roundsL n), k, ([] : List Int), (Value.slice none 0 0), rfl, (((F0.step0 D1.stp).step0 D2.stp).step0 D3.stp), ok3, (cvt (by (first | rfl | omega | (simp_all; done) | (simp_all; omega))) (D3.dn 2 rfl rfl)), (D3.kt (D2.dn 0 rfl rfl) rfl), (cvi (by (first | rfl | omega | (simp_all; done) | (simp_all; omega))) (D3.kt (D2.kt (D1.kt p1 rfl) rfl) rfl)), (cvo (by (simp)) (by (simp)) o1), rfl, by omega, roundsL_len _, by simp, rfl⟩
 ·
  rintro n2 a5 w2 ⟨t2, m, lf, q, os, x5_0, rfl, F4, ok4, q9, q10, q11, o2, hos, hq, hlf, hol, rfl⟩
  have hf12 := fct_le12 (n := m) (by omega)
  have hfp := fct_pos (m - 1)
  refine wp_seq (wp_seq ?_)
  refine gI a5 t2 ok4 (gM q9 (gS rfl (fun A B E G H d0 => rP (y_len Try.underlying22 (ed d0 rfl rfl rfl))) (gS rfl (fun A B E G H d0 => rP (y_gtr (ed d0 rfl rfl rfl) rfl)) (gE ok4 fun a6 s4 ok5 D4 => ?_)))); have F5 := F4.step0 D4.stp; have q12 := D4.kt q9 rfl; have q13 := D4.kt q10 rfl; have o3 := Own.k0 o2 D4.stp; refine tn ?_
  refine cond_p (p := ((0 : Int) < (((List.length lf) : Nat) : Int))) (D4.dn 2 rfl rfl) (fun c1 => ?_) (fun c1 => ?_)
  ·
   have hdv := at_div (m := m) (q := q) (by omega) hq; have hdn : (0 : Int) ≤ ((q / fct (m - 1) : Nat) : Int) := Int.natCast_nonneg _; have hmn : (0 : Int) ≤ ((q % fct (m - 1) : Nat) : Int) := Int.natCast_nonneg _; have htk1 : (List.take (q / fct (m - 1)) lf).length ≤ 12 := (by rw [List.length_take]; omega); have hdk1 : (List.drop (q / fct (m - 1) + 1) lf).length ≤ 12 := (by rw [List.length_drop]; omega)
   refine wp_skip (tn (wp_block (wp_seq ?_)))
   refine gI a6 s4 ok5 (gM q12 (gS rfl (fun A B E G H d0 => rP (y_len Try.underlying22 (ed d0 rfl rfl rfl))) (gT (Ty.nat ((List.length lf) - 1)) rfl (fun A B E G H d0 => rP ((y_sub (ed d0 rfl rfl rfl) rfl (w64 (by omega) (by omega))).mono (fun τ _ h => cvi (σ := τ) (by omega) h))) (gS rfl (fun A B E G H d0 => rP (y_call _ Try.func58 rfl rfl my1 (rFact_fn ((((List.length lf) - 1))) (((List.length lf) - 1)) _ _ (cvi (σ := B) (by omega) (ed d0 rfl rfl rfl)) (by omega) (by omega)))) (gB 0 (gE ok5 fun a7 s5 ok6 D5 => ?_)))))); have q18 := D5.kt (D4.kt q11 rfl) rfl; have o4 := Own.k0 o3 D5.stp
   have q20 : At (Ty.nat (fct (m - 1))) s5 a7 (.tmp 7) := (cvi (by (first | rw [hlf] | (have e : ((((List.length lf : Nat) : Int) - (1 : Int))).toNat = m - 1 := (by omega); rw [e]))) (D5.dn 4 rfl rfl))
   refine tn (wp_seq ?_)
   refine gI a7 s5 ok6 (gM q18 (gM q20 (gT (Ty.nat (q / (fct (m - 1)))) rfl (fun A B E G H d0 d1 => rP (y_quoN (ed d0 rfl rfl rfl) (ed d1 rfl rfl rfl) (by omega) (by omega))) (gB 0 (gE ok6 fun a8 s6 ok7 D6 => ?_))))); have o5 := Own.k0 o4 D6.stp; refine tn (wp_seq ?_)
   refine gI a8 s6 ok7 (gM (D6.kt q18 rfl) (gM (D6.kt q20 rfl) (gT (Ty.nat (q % (fct (m - 1)))) rfl (fun A B E G H d0 d1 => rP (y_remN (ed d0 rfl rfl rfl) (ed d1 rfl rfl rfl) (by omega))) (gB 0 (gE ok7 fun a9 s7 ok8 D7 => ?_))))); have q26 := D7.kt (D6.kt (D5.kt q12 rfl) rfl) rfl; have q27 := D7.kt (D6.kt (D5.kt q13 rfl) rfl) rfl; have q28 := D7.kt (D6.dn 3 rfl rfl) rfl; have o6 := Own.k0 o5 D7.stp; refine tn (wp_seq ?_)
   refine gI a9 s7 ok8 (gM q27 (gM q26 (gM q28 (gT (Ty.ref [(Ty.int (lf.getD (q / (fct (m - 1))) 0))]) rfl (fun A B E G H d0 d1 => rP (y_index1 Try.underlying22 Try.inf3 (ed d0 rfl rfl rfl) (ed d1 rfl rfl rfl) (by omega) (lst_get Ty.int lf 0 (q / (fct (m - 1))) (by omega)))) (gS rfl (fun A B E G H d0 => rP (y_load Try.underlying3 rfl (ed d0 rfl rfl rfl) rfl)) (gT (Ty.sl 1 1 [(Ty.int (lf.getD (q / (fct (m - 1))) 0))]) rfl (fun A B E G H d0 => rP (y_build1o Try.underlying22 Try.inf3 rfl (one_val rfl) (ed d0 rfl rfl rfl))) (gE2 ok8 fun a10 s8 ok9 D8 => ?_))))))); have o7 := Own.k0 o6 D8.stp
   have q34 : At (Ty.val x5_0) s8 a10 (.tmp 24) := D8.done 0 (by decide)
   have q35 := D8.dn 5 (by decide) rfl rfl
   have b1 := sl_le q35
   refine tL ok9 (YldM.toL (m_append Try.underlying22 Try.inf3 (by decide) rfl (by decide) (al (R := (Pr.own 5 3 1 (List.length os) (List.map Ty.int os))) q34 o7) q35 (by intro U hU; simp at hU; subst hU; exact one_val rfl) (by omega) (by omega))) fun a11 s9 hs1 ok10 r1 sm1 => ?_
   have F10 := ((((F5.step0 D5.stp).step0 D6.stp).step0 D7.stp).step0 D8.stp).stepL hs1 (by decide); have q36 := kpL hs1 (by decide) (sm1 6 (by decide)) (D8.kt q26 rfl); have q37 := kpL hs1 (by decide) (sm1 5 (by decide)) (D8.kt q27 rfl); have q38 := kpL hs1 (by decide) (sm1 8 (by decide)) (D8.kt q28 rfl); have q39 := kpL hs1 (by decide) (sm1 1 (by decide)) (D8.kt (D7.dn 3 rfl rfl) rfl)
   obtain ⟨x1, hx1⟩ : ∃ x, a11.eval (.tmp 30) = x := ⟨_, rfl⟩
   have q40 : At (Ty.val x1) s9 a11 (.tmp 30) := hx1
   have o8 := al2 (R := (Pr.own 5 3 1 (List.length (os ++ [(lf.getD (q / (fct (m - 1))) 0)])) (List.map Ty.int (os ++ [(lf.getD (q / (fct (m - 1))) 0)])))) hx1 (cvo (by simp) (by first | (rw [List.map_append]; rfl) | simp) r1)
   clear r1
   refine tL ok10 (Yld.toL (y_as q40)) fun a12 s10 hs2 ok11 r2 sm2 => ?_
   have F11 := F10.stepL hs2 (by decide); have q41 := kpL hs2 (by decide) (sm2 6 (by decide)) q36; have q42 := kpL hs2 (by decide) (sm2 8 (by decide)) q38; have q43 := kpL hs2 (by decide) (sm2 1 (by decide)) q39; have o9 := Own.keepL o8 hs2 (by decide) (by decide)
   have q44 : At (Ty.val x1) s10 a12 (.tmp 5) := r2
   clear r2; refine wpList_nil (tn ?_)
   refine gI a12 s10 ok11 (gR (Pr.own0 7 3) rfl (by intro A B E G H; exact rP (y_lit00 (k := 7) Try.underlying22 Try.inf3)) (gM q41 (gM q42 (gT (Ty.lst Ty.int (lf.take (q / (fct (m - 1))))) rfl (fun A B E G H d0 d1 => rP (y_take Try.underlying22 Try.inf3 (ed d0 rfl rfl rfl) (ed d1 rfl rfl rfl) (by omega))) (gR (Pr.own 7 3 1 (List.length (lf.take (q / (fct (m - 1))))) (List.map Ty.int (lf.take (q / (fct (m - 1)))))) rfl (by intro A B E G H d0 d1; have e0 : (Pr.own0 7 3).has B (A.eval (.tmp 31)) := d0 rfl; exact rP (y_append0 Try.underlying22 Try.inf3 (by decide) rfl e0 (ed d1 rfl rfl rfl) (one_map (fun _ => one_val rfl)) (by omega) (by omega))) (gM q41 (gM q42 (gT (Ty.nat ((q / (fct (m - 1))) + 1)) rfl (fun A B E G H d0 => rP ((y_add (ed d0 rfl rfl rfl) rfl (w64 (by omega) (by omega))).mono (fun τ _ h => cvi (σ := τ) (by first | omega | exact (Int.natCast_mul _ _).symm) h))) (gT (Ty.lst Ty.int (lf.drop ((q / (fct (m - 1))) + 1))) rfl (fun A B E G H d0 d1 => rP (y_drop Try.underlying22 Try.inf3 (ed d0 rfl rfl rfl) (ed d1 rfl rfl rfl) (by omega))) (gE2 ok11 fun a13 s11 ok12 D9 => ?_)))))))))); have o10 := Own.k0 o9 D9.stp
   obtain ⟨x2, hx2⟩ : ∃ x, a13.eval (.tmp 35) = x := ⟨_, rfl⟩
   have q48 : At (Ty.val x2) s11 a13 (.tmp 35) := hx2
   have o11 := al2 (R := (Pr.own 7 3 1 (List.length (lf.take (q / (fct (m - 1))))) (List.map Ty.int (lf.take (q / (fct (m - 1))))))) hx2 (D9.done 4 (by decide))
   have q49 := D9.dn 8 (by decide) rfl rfl
   have b2 := sl_le q49
   refine tL ok12 (YldM.toL (m_append Try.underlying22 Try.inf3 (by decide) rfl (by decide) (al (R := (Pr.own 7 3 1 (List.length (lf.take (q / (fct (m - 1))))) (List.map Ty.int (lf.take (q / (fct (m - 1))))))) q48 o11) q49 (one_map (fun _ => one_val rfl)) (by omega) (by omega))) fun a14 s12 hs3 ok13 r3 sm3 => ?_
   have F13 := (F11.step0 D9.stp).stepL hs3 (by decide); have q50 := kpL hs3 (by decide) (sm3 6 (by decide)) (D9.kt q41 rfl); have q51 := kpL hs3 (by decide) (sm3 1 (by decide)) (D9.kt q43 rfl); have q52 := kpL hs3 (by decide) (sm3 5 (by decide)) (D9.kt q44 rfl); have o13 := Own.keepL o10 hs3 (by decide) (by decide)
   obtain ⟨x3, hx3⟩ : ∃ x, a14.eval (.tmp 40) = x := ⟨_, rfl⟩
   have q53 : At (Ty.val x3) s12 a14 (.tmp 40) := hx3
   have o12 := al2 (R := (Pr.own 7 3 1 (List.length ((lf.take (q / (fct (m - 1)))) ++ (lf.drop ((q / (fct (m - 1))) + 1)))) (List.map Ty.int ((lf.take (q / (fct (m - 1)))) ++ (lf.drop ((q / (fct (m - 1))) + 1)))))) hx3 (cvo (by simp) (by first | (rw [List.map_append]; rfl) | simp) r3)
   clear r3
   refine tL ok13 (Yld.toL (y_as q53)) fun a15 s13 hs4 ok14 r4 sm4 => ?_
   have F14 := F13.stepL hs4 (by decide); have q54 := kpL hs4 (by decide) (sm4 1 (by decide)) q51; have q55 := kpL hs4 (by decide) (sm4 5 (by decide)) q52; have o14 := Own.keepL o13 hs4 (by decide) (by decide); have o15 := Own.keepL o12 hs4 (by decide) (by decide)
   have q56 : At (Ty.val x3) s13 a15 (.tmp 6) := r4
   clear r4; refine wpList_nil (bn ?_)
   obtain ⟨t3, e1, h1, q57⟩ := Own.seal o15 (by decide)
   rw [← e1]
   have F15 := F14.step h1 (by decide); have o16 := Own.keepL o14 (h1.toL (L := [7]) (by simp)) (by decide) (by decide); have q58 := Ty.up (Ty.nat (q % (fct (m - 1)))) (h1.le (by decide)) q54; have q59 := Ty.up (Ty.val x1) (h1.le (by decide)) q55
   have q60 : At (Ty.lst Ty.int ((lf.take (q / (fct (m - 1)))) ++ (lf.drop ((q / (fct (m - 1))) + 1)))) t3 a15 (.tmp 6) := by have e : a15.eval (.tmp 6) = x3 := q56; show Ty.has _ _ _; rw [e]; exact q57
   exact tn ⟨((m - 1)) + 1, by omega, t3, (m - 1), (lf.eraseIdx (q / (fct (m - 1)))), (q % (fct (m - 1))), (os ++ [lf.getD (q / (fct (m - 1))) 0]), x1, rfl, F15, ok14, (cvt (by (rw [erase_eq])) q60), q59, (cvi (by (first | rfl | omega | (simp_all; done) | (simp_all; omega))) q58), (cvo (by (simp)) (by (simp)) o16), at_step hos (by omega), hdv.2, by rw [List.length_eraseIdx, if_pos (by omega)]; omega, by rw [List.length_append, List.length_singleton]; omega, rfl⟩
  ·
   refine wp_exit (tx (tx (bx (tn (wp_seq ?_)))))
   refine gI a6 s4 ok5 (gM q13 (gB 0 (gE ok5 fun a16 s14 ok15 D10 => ?_))); have o17 := Own.k0 o3 D10.stp
   have q61 : At (Ty.val x5_0) s14 a16 (.tmp 4) := D10.done 1
   refine tn (wp_ret ?_)
   obtain ⟨t4, e2, h2, q62⟩ := Own.seal o17 (by decide)
   rw [← e2]
   have F17 := (F5.step0 D10.stp).step h2 (by decide)
   have q63 : At (Ty.lst Ty.int os) t4 a16 (.tmp 4) := by have e : a16.eval (.tmp 4) = x5_0 := q61; show Ty.has _ _ _; rw [e]; exact q62
   exact retL1 rfl ok15 F17 (cvt (by (rw [← hos, show m = 0 by omega, atF, List.append_nil])) q63)


set_option maxHeartbeats 4000000 in
set_option maxRecDepth 100000 in
theorem rRowOf_fn (c : Int) (n : Nat) (σ : GW)  (v0 v1 : Value) (hv0 : Ty.has (Ty.int c) σ v0) (hv1 : Ty.has (Ty.nat n) σ v1)  (hc : -9223372036854775808 ≤ c ∧ c ≤ 9223372036854775807) (hn : 1 ≤ n ∧ n ≤ 12) :
    FnC Try.prog 31 #[v0, v1] σ (Ty.lst Ty.int (atL n (pick c (fct n)))) := by
 have hfp := fct_pos n
 have hpl := pick_lt c (n := fct n) hfp
 refine fn_intro0 Try.func31 rfl Try.ntmps31 (Nat.le_of_ble_eq_true rfl) (fun s0 a0 hle F0 ok0 hargs => ?_)
 have p0 := pA hle (hargs 0 _ rfl) hv0
 have p1 := pA hle (hargs 1 _ rfl) hv1
 clear hargs; refine wp_seq ?_
 refine gI a0 s0 ok0 (gC (Ty.val (Value.slice none 0 0)) (gE ok0 fun a1 s1 ok1 D1 => ?_)); have q2 := D1.kt p1 rfl; refine tn (wp_seq ?_)
 refine gI a1 s1 ok1 (gM q2 (gM (D1.kt p0 rfl) (gM q2 (gS rfl (fun A B E G H d0 => rP (y_call _ Try.func58 rfl rfl my1 (rFact_fn (n) (n) _ _ (ed d0 rfl rfl rfl) (by omega) (by omega)))) (gS rfl (fun A B E G H d0 d1 d2 => rP (y_call _ Try.func15 rfl rfl my2 (pick_fn (c) ((fct n)) _ _ _ (ed d0 rfl rfl rfl) (cvi (σ := B) (by omega) (ed d1 rfl rfl rfl)) (by omega) (by omega)))) (gS rfl (fun A B E G H d0 d1 d2 => rP (y_call _ Try.func70 rfl rfl my2 (rAt_fn (n) ((pick c ((fct n)))) _ _ _ (ed d0 rfl rfl rfl) (cvi (σ := B) (by first | omega | assumption) (ed d1 rfl rfl rfl)) (by first | omega | assumption) (by first | omega | assumption)))) (gB 0 (gE ok1 fun a2 s2 ok2 D2 => ?_)))))))); refine tn (wp_ret ?_)
 exact retL1 rfl ok2 ((F0.step0 D1.stp).step0 D2.stp) (cvt (by (first | rfl | omega | (simp_all; done) | (simp_all; omega))) (D2.dn 6 rfl rfl))


set_option maxRecDepth 100000 in
theorem rUndo_fn (r : List Int) (σ : GW) (v0 : Value) (hv0 : Ty.has (Ty.lst Ty.int r) σ v0) (hr : IsRow r) :
    FnC Try.prog 23 #[v0] σ (Ty.lst Ty.int (undoL r)) := by
 have hln := hr.le
 refine fn_intro Try.func23 rfl Try.ntmps23 (Nat.le_of_ble_eq_true rfl) (fun s0 a0 hle F0 ok0 hargs => ?_)
 have p0 := pA hle (hargs 0 _ rfl) hv0
 have b1 := sl_le p0
 clear hargs; refine wp_seq ?_
 refine gI a0 s0 ok0 (gC (Ty.val (Value.slice none 0 0)) (gE ok0 fun a1 s1 ok1 D1 => ?_)); have q1 := D1.kt p0 rfl; refine tn (wp_seq ?_)
 refine gI a1 s1 ok1 (gM q1 (gS rfl (fun A B E G H d0 => rP (y_len Try.underlying22 (ed d0 rfl rfl rfl))) (gR (Pr.own 11 3 1 (List.length r) (List.map Ty.int (List.replicate (List.length r) 0))) rfl (by intro A B E G H d0 d1; have e1 := ed d0 rfl rfl rfl; exact rP ((y_make (k := 11) (T := Ty.int 0) (n := (List.length r)) Try.underlying22 Try.inf3 rfl (fun _ => rfl) e1 e1 (by omega) (by omega)).mono (fun _ _ h => cvo (by simp) (by simp) h))) (gR (Pr.own 11 3 1 (List.length r) (List.map Ty.int (List.replicate (List.length r) 0))) rfl (by intro A B E G H d0 d1 d2 d3; have e2 : (Pr.own 11 3 1 (List.length r) (List.map Ty.int (List.replicate (List.length r) 0))).has B (A.eval (.tmp 7)) := d0 rfl; exact rP (y_assign e2)) (gE ok1 fun a2 s2 ok2 D2 => ?_)))))
 have q3 : (Pr.own 11 3 1 (List.length r) (List.map Ty.int (List.replicate (List.length r) 0))).has s2 (a2.eval (.tmp 3)) := D2.done 3
 refine tn (wp_seq (wp_seq ?_))
 refine gI a2 s2 ok2 (gC (Ty.int (0 : Int)) (gE ok2 fun a3 s3 ok3 D3 => ?_))
 have q5 : (Pr.own 11 3 1 (List.length r) (List.map Ty.int (List.replicate (List.length r) 0))).has s3 (a3.eval (.tmp 3)) := D3.ko q3 rfl
 refine tn (wp_block ?_)
 refine loop (fun n1 a4 w1 => ∃ (t1 : GW) (k : Nat), t1.w = w1 ∧ From s0 t1 ∧ Ok 22 [] a4 ∧ (Pr.own 11 3 1 (List.length (undoTo r k)) (List.map Ty.int (undoTo r k))).has t1 (a4.eval (.tmp 3)) ∧ At (Ty.nat k) t1 a4 (.tmp 4) ∧ At (Ty.lst Ty.int r) t1 a4 (.tmp 0) ∧ (k ≤ r.length) ∧ n1 = r.length - k) (r.length - (0)) ?_ ?_
 ·
  exact ⟨s3, 0, rfl, (((F0.step0 D1.stp).step0 D2.stp).step0 D3.stp), ok3, (cvo (by (simp [undoTo_zero])) (by (simp [undoTo_zero])) q5), (cvi (by (first | rfl | omega | (simp_all; done) | (simp_all; omega))) (D3.dn 0 rfl rfl)), (D3.kt (D2.kt q1 rfl) rfl), by omega, rfl⟩
 ·
  rintro n2 a5 w2 ⟨t2, k, rfl, F4, ok4, q7, q8, q9, hk, rfl⟩
  have hp := undoTo_len r k
  refine wp_seq (wp_seq ?_)
  refine gI a5 t2 ok4 (gM q8 (gM q9 (gS rfl (fun A B E G H d0 => rP (y_len Try.underlying22 (ed d0 rfl rfl rfl))) (gS rfl (fun A B E G H d0 d1 => rP (y_lss (ed d0 rfl rfl rfl) (ed d1 rfl rfl rfl))) (gE ok4 fun a6 s4 ok5 D4 => ?_))))); have F5 := F4.step0 D4.stp
  have q10 : (Pr.own 11 3 1 (List.length (undoTo r k)) (List.map Ty.int (undoTo r k))).has s4 (a6.eval (.tmp 3)) := D4.ko q7 rfl
  have q11 := D4.kt q8 rfl; have q12 := D4.kt q9 rfl; refine tn ?_
  refine cond_p (p := (((k : Nat) : Int) < (((List.length r) : Nat) : Int))) (D4.dn 3 rfl rfl) (fun c1 => ?_) (fun c1 => ?_)
  ·
   have hq := hr.at (i := k) (by omega)
   refine wp_skip (tn (wp_seq (wp_block ?_)))
   refine gI a6 s4 ok5 (gT (Ty.val (a6.eval (.tmp 3))) rfl (fun A B E G H => rP (y_move (H 3 rfl))) (gM q12 (gM q11 (gT (Ty.ref [(Ty.int (r.getD k 0))]) rfl (fun A B E G H d0 d1 => rP (y_index1 Try.underlying22 Try.inf3 (ed d0 rfl rfl rfl) (ed d1 rfl rfl rfl) (by omega) (lst_get Ty.int r 0 k (by omega)))) (gS rfl (fun A B E G H d0 => rP (y_load Try.underlying3 rfl (ed d0 rfl rfl rfl) rfl)) (gM q11 (gT (Ty.val (cellPtr (a6.eval (.tmp 3)) ((r.getD k 0)).toNat)) rfl (fun A B E G H d0 d1 d2 d3 d4 d5 d6 d7 => rP (own_index1 (i := (r.getD k 0)) Try.underlying22 Try.inf3 ((Pr.own 11 3 1 (List.length (undoTo r k)) (List.map Ty.int (undoTo r k))).up E q10) (ed d0 rfl rfl rfl) (ed d1 rfl rfl rfl) (by omega) (by omega))) (gE2 ok5 fun a7 s5 ok6 D5 => ?_)))))))); have q14 := (Pr.own 11 3 1 (List.length (undoTo r k)) (List.map Ty.int (undoTo r k))).up D5.stp q10
   have q15 : a7.eval (.tmp 3) = a6.eval (.tmp 3) := D5.same 3 rfl
   have q18 := D5.dn 5 (by decide) rfl rfl
   refine tail_step0 (m := 11) (R := (fun _ τ => Own τ 11 3 1 (a6.eval (.tmp 3)) (List.length (undoTo r k)) ((List.map Ty.int (undoTo r k)).set ((r.getD k 0)).toNat (Ty.nat k)))) rfl rfl (m_store Try.inf3 (by decide) q14 (D5.dn 6 (by decide) rfl rfl) (by simp only [List.length_map, List.length_set]; omega) q18 (one_val rfl)) (fun v1 s6 hs1 r1 => ?_)
   have F7 := (F5.step0 D5.stp).step hs1 (by decide)
   have q20 : At (Ty.nat k) s6 a7 (.tmp 4) := kpm hs1 (by decide) rfl (D5.kt q11 rfl)
   have q21 : At (Ty.lst Ty.int r) s6 a7 (.tmp 0) := kpm hs1 (by decide) rfl (D5.kt q12 rfl)
   have q22 : At (Ty.nat k) s6 a7 (.tmp 19) := kpm hs1 (by decide) rfl q18
   have q23 : (Pr.own 11 3 1 (List.length ((undoTo r k).set ((r.getD k 0)).toNat ((k : Nat) : Int))) (List.map Ty.int ((undoTo r k).set ((r.getD k 0)).toNat ((k : Nat) : Int)))).has s6 (a6.eval (.tmp 3)) := (cvo (by simp) (by simp) r1)
   refine wpList_nil ?_
   have q24 : (Pr.own 11 3 1 (List.length ((undoTo r k).set ((r.getD k 0)).toNat ((k : Nat) : Int))) (List.map Ty.int ((undoTo r k).set ((r.getD k 0)).toNat ((k : Nat) : Int)))).has s6 (a7.eval (.tmp 3)) := al q15 q23
   refine bn (tn ?_)
   refine gI a7 s6 ok6 (gM q20 (gT (Ty.int (((k : Nat) : Int) + (1 : Int))) rfl (fun A B E G H d0 => rP (y_add (ed d0 rfl rfl rfl) rfl (w64 (by omega) (by omega)))) (gB 0 (gE ok6 fun a9 s7 ok8 D6 => ?_))))
   have q25 : (Pr.own 11 3 1 (List.length ((undoTo r k).set ((r.getD k 0)).toNat ((k : Nat) : Int))) (List.map Ty.int ((undoTo r k).set ((r.getD k 0)).toNat ((k : Nat) : Int)))).has s7 (a9.eval (.tmp 3)) := D6.ko q24 rfl
   exact tn ⟨r.length - ((k+1)), by omega, s7, (k+1), rfl, (F7.step0 D6.stp), ok8, (cvo (by (rw [undoTo_step r k hr (by omega)])) (by (rw [undoTo_step r k hr (by omega)])) q25), (cvi (by (first | rfl | omega | (simp_all; done) | (simp_all; omega))) (D6.dn 2 rfl rfl)), (D6.kt q21 rfl), by omega, rfl⟩
  ·
   refine wp_exit (tx (tx (bx (tn (wp_seq ?_)))))
   refine gI a6 s4 ok5 (gT (Ty.val (a6.eval (.tmp 3))) rfl (fun A B E G H => rP (y_move (H 3 rfl))) (gB 0 (gE ok5 fun a10 s8 ok9 D7 => ?_)))
   have q28 : (Pr.own 11 3 1 (List.length (undoTo r k)) (List.map Ty.int (undoTo r k))).has s8 (a10.eval (.tmp 2)) := al (show _ = _ from D7.done 1) ((Pr.own 11 3 1 (List.length (undoTo r k)) (List.map Ty.int (undoTo r k))).up D7.stp q10)
   refine tn (wp_ret ?_)
   obtain ⟨t3, e1, h1, q29⟩ := Own.seal q28 (by decide)
   rw [← e1]
   have F10 := (F5.step0 D7.stp).step h1 (by decide)
   exact ret1 rfl ok9 F10 (cvt (by (obtain rfl : k = r.length := (by omega); rw [undoTo_all r hr])) q29)


set_option maxRecDepth 100000 in
theorem rBy_fn (a : List Int) (b : List Int) (σ : GW) (v0 v1 : Value) (hv0 : Ty.has (Ty.lst Ty.int a) σ v0) (hv1 : Ty.has (Ty.lst Ty.int b) σ v1) (hbd : ∀ i, i < b.length → 0 ≤ b.getD i 0 ∧ b.getD i 0 < a.length) (E : b.length ≤ 1000000) :
    FnC Try.prog 22 #[v0, v1] σ (Ty.lst Ty.int (byL a b)) := by
 refine fn_intro Try.func22 rfl Try.ntmps22 (Nat.le_of_ble_eq_true rfl) (fun s0 a0 hle F0 ok0 hargs => ?_)
 have p0 := pA hle (hargs 0 _ rfl) hv0
 have b1 := sl_le p0
 have p1 := pA hle (hargs 1 _ rfl) hv1
 have b2 := sl_le p1
 clear hargs; refine wp_seq ?_
 refine gI a0 s0 ok0 (gC (Ty.val (Value.slice none 0 0)) (gE ok0 fun a1 s1 ok1 D1 => ?_)); refine tn (wp_seq ?_)
 refine gI a1 s1 ok1 (gC (Ty.val (Value.slice none 0 0)) (gE ok1 fun a2 s2 ok2 D2 => ?_)); refine tn (wp_seq (wp_seq ?_))
 refine gI a2 s2 ok2 (gC (Ty.int (0 : Int)) (gE ok2 fun a3 s3 ok3 D3 => ?_)); refine tn (wp_block ?_)
 refine loop (fun n1 a4 w1 => ∃ (t1 : GW) (k : Nat), t1.w = w1 ∧ From s0 t1 ∧ Ok 24 [] a4 ∧ (Pr.own 2 3 1 (List.length (byL a (b.take k))) (List.map Ty.int (byL a (b.take k)))).has t1 (a4.eval (.tmp 5)) ∧ At (Ty.nat k) t1 a4 (.tmp 6) ∧ At (Ty.lst Ty.int a) t1 a4 (.tmp 0) ∧ At (Ty.lst Ty.int b) t1 a4 (.tmp 1) ∧ (k ≤ b.length) ∧ n1 = b.length - k) (b.length - (0)) ?_ ?_
 ·
  exact ⟨s3, 0, rfl, (((F0.step0 D1.stp).step0 D2.stp).step0 D3.stp), ok3, (by have e : a3.eval (.tmp 5) = _ := (D3.kt (D2.dn 0 rfl rfl) rfl); rw [e]; exact Own.nil _ _ _ _), (cvi (by (first | rfl | omega | (simp_all; done) | (simp_all; omega))) (D3.dn 0 rfl rfl)), (D3.kt (D2.kt (D1.kt p0 rfl) rfl) rfl), (D3.kt (D2.kt (D1.kt p1 rfl) rfl) rfl), by omega, rfl⟩
 ·
  rintro n2 a5 w2 ⟨t2, k, rfl, F4, ok4, q10, q11, q12, q13, hk, rfl⟩
  have hp := byL_take_len a b k
  refine wp_seq (wp_seq ?_)
  refine gI a5 t2 ok4 (gM q11 (gM q13 (gS rfl (fun A B E G H d0 => rP (y_len Try.underlying22 (ed d0 rfl rfl rfl))) (gS rfl (fun A B E G H d0 d1 => rP (y_lss (ed d0 rfl rfl rfl) (ed d1 rfl rfl rfl))) (gE ok4 fun a6 s4 ok5 D4 => ?_))))); have F5 := F4.step0 D4.stp
  have q14 : (Pr.own 2 3 1 (List.length (byL a (b.take k))) (List.map Ty.int (byL a (b.take k)))).has s4 (a6.eval (.tmp 5)) := D4.ko q10 rfl
  have q15 := D4.kt q11 rfl; have q16 := D4.kt q12 rfl; have q17 := D4.kt q13 rfl; refine tn ?_
  refine cond_p (p := (((k : Nat) : Int) < (((List.length b) : Nat) : Int))) (D4.dn 3 rfl rfl) (fun c1 => ?_) (fun c1 => ?_)
  ·
   have hq := hbd k (by omega)
   refine wp_skip (tn (wp_seq (wp_block ?_)))
   refine gI a6 s4 ok5 (gT (Ty.val (a6.eval (.tmp 5))) rfl (fun A B E G H => rP (y_move (H 5 rfl))) (gM q16 (gM q17 (gM q15 (gT (Ty.ref [(Ty.int (b.getD k 0))]) rfl (fun A B E G H d0 d1 => rP (y_index1 Try.underlying22 Try.inf3 (ed d0 rfl rfl rfl) (ed d1 rfl rfl rfl) (by omega) (lst_get Ty.int b 0 k (by omega)))) (gS rfl (fun A B E G H d0 => rP (y_load Try.underlying3 rfl (ed d0 rfl rfl rfl) rfl)) (gT (Ty.ref [(Ty.int (a.getD ((b.getD k 0)).toNat 0))]) rfl (fun A B E G H d0 d1 => rP (y_index1 Try.underlying22 Try.inf3 (ed d0 rfl rfl rfl) (ed d1 rfl rfl rfl) (by omega) (lst_get Ty.int a 0 ((b.getD k 0)).toNat (by omega)))) (gS rfl (fun A B E G H d0 => rP (y_load Try.underlying3 rfl (ed d0 rfl rfl rfl) rfl)) (gT (Ty.sl 1 1 [(Ty.int (a.getD ((b.getD k 0)).toNat 0))]) rfl (fun A B E G H d0 => rP (y_build1o Try.underlying22 Try.inf3 rfl (one_val rfl) (ed d0 rfl rfl rfl))) (gE2 ok5 fun a7 s5 ok6 D5 => ?_)))))))))); have q19 := (Pr.own 2 3 1 (List.length (byL a (b.take k))) (List.map Ty.int (byL a (b.take k)))).up D5.stp q14
   have q20 : a7.eval (.tmp 5) = a6.eval (.tmp 5) := D5.same 5 rfl
   have q25 := D5.dn 8 (by decide) rfl rfl
   refine tail_step (m := 2) (R := (fun v τ => Own τ 2 3 1 v ((List.length (byL a (b.take k))) + 1) ((List.map Ty.int (byL a (b.take k))) ++ [(Ty.int (a.getD ((b.getD k 0)).toNat 0))]))) rfl rfl (by decide) ok6 (m_append Try.underlying22 Try.inf3 (by decide) rfl (by decide) (al (D5.dn 0 (by decide) rfl rfl) q19) q25 (by intro U hU; simp at hU;  subst hU; exact one_val rfl) (by omega) (by omega)) (fun a8 s6 hs1 ok7 r1 sm1 => ?_)
   have F7 := (F5.step0 D5.stp).step hs1 (by decide)
   have q26 : At (Ty.nat k) s6 a8 (.tmp 6) := kpm hs1 (by decide) (sm1 6 (by decide)) (D5.kt q15 rfl)
   have q27 : At (Ty.lst Ty.int a) s6 a8 (.tmp 0) := kpm hs1 (by decide) (sm1 0 (by decide)) (D5.kt q16 rfl)
   have q28 : At (Ty.lst Ty.int b) s6 a8 (.tmp 1) := kpm hs1 (by decide) (sm1 1 (by decide)) (D5.kt q17 rfl)
   have q29 : At (Ty.sl 1 1 [(Ty.int (a.getD ((b.getD k 0)).toNat 0))]) s6 a8 (.tmp 21) := kpm hs1 (by decide) (sm1 21 (by decide)) q25
   have q30 : (Pr.own 2 3 1 (List.length ((byL a (b.take k)) ++ [(a.getD ((b.getD k 0)).toNat 0)])) (List.map Ty.int ((byL a (b.take k)) ++ [(a.getD ((b.getD k 0)).toNat 0)]))).has s6 (a8.eval (.tmp 22)) := (cvo (by simp) (by first | (rw [List.map_append]; rfl) | simp) r1)
   refine tail_step (m := 0) (R := (fun v τ => Pr.has (Pr.own 2 3 1 (List.length ((byL a (b.take k)) ++ [(a.getD ((b.getD k 0)).toNat 0)])) (List.map Ty.int ((byL a (b.take k)) ++ [(a.getD ((b.getD k 0)).toNat 0)]))) τ v)) rfl rfl (by decide) ok7 (Yld.toM (y_assign q30)) (fun a9 s7 hs2 ok8 r2 sm2 => ?_)
   have F8 := F7.step hs2 (by decide)
   have q31 : At (Ty.nat k) s7 a9 (.tmp 6) := kpm hs2 (by decide) (sm2 6 (by decide)) q26
   have q32 : At (Ty.lst Ty.int a) s7 a9 (.tmp 0) := kpm hs2 (by decide) (sm2 0 (by decide)) q27
   have q33 : At (Ty.lst Ty.int b) s7 a9 (.tmp 1) := kpm hs2 (by decide) (sm2 1 (by decide)) q28
   have q34 : At (Ty.sl 1 1 [(Ty.int (a.getD ((b.getD k 0)).toNat 0))]) s7 a9 (.tmp 21) := kpm hs2 (by decide) (sm2 21 (by decide)) q29
   have q35 : (Pr.own 2 3 1 (List.length ((byL a (b.take k)) ++ [(a.getD ((b.getD k 0)).toNat 0)])) (List.map Ty.int ((byL a (b.take k)) ++ [(a.getD ((b.getD k 0)).toNat 0)]))).has s7 (a9.eval (.tmp 22)) := kpmo hs2 (by decide) (.inl rfl) (sm2 22 (by decide)) q30
   have q36 : (Pr.own 2 3 1 (List.length ((byL a (b.take k)) ++ [(a.getD ((b.getD k 0)).toNat 0)])) (List.map Ty.int ((byL a (b.take k)) ++ [(a.getD ((b.getD k 0)).toNat 0)]))).has s7 (a9.eval (.tmp 5)) := r2
   refine wpList_nil (bn (tn ?_))
   refine gI a9 s7 ok8 (gM q31 (gT (Ty.int (((k : Nat) : Int) + (1 : Int))) rfl (fun A B E G H d0 => rP (y_add (ed d0 rfl rfl rfl) rfl (w64 (by omega) (by omega)))) (gB 0 (gE ok8 fun a10 s8 ok9 D6 => ?_))))
   have q39 : (Pr.own 2 3 1 (List.length ((byL a (b.take k)) ++ [(a.getD ((b.getD k 0)).toNat 0)])) (List.map Ty.int ((byL a (b.take k)) ++ [(a.getD ((b.getD k 0)).toNat 0)]))).has s8 (a10.eval (.tmp 5)) := D6.ko q36 rfl
   exact tn ⟨b.length - ((k+1)), by omega, s8, (k+1), rfl, (F8.step0 D6.stp), ok9, (cvo (by (rw [byL_snoc a b k (by omega)])) (by (rw [byL_snoc a b k (by omega)])) q39), (cvi (by (first | rfl | omega | (simp_all; done) | (simp_all; omega))) (D6.dn 2 rfl rfl)), (D6.kt q32 rfl), (D6.kt q33 rfl), by omega, rfl⟩
  ·
   refine wp_exit (tx (tx (bx (tn (wp_seq ?_)))))
   refine gI a6 s4 ok5 (gT (Ty.val (a6.eval (.tmp 5))) rfl (fun A B E G H => rP (y_move (H 5 rfl))) (gB 0 (gE ok5 fun a11 s9 ok10 D7 => ?_)))
   have q41 : (Pr.own 2 3 1 (List.length (byL a (b.take k))) (List.map Ty.int (byL a (b.take k)))).has s9 (a11.eval (.tmp 4)) := al (show _ = _ from D7.done 1) ((Pr.own 2 3 1 (List.length (byL a (b.take k))) (List.map Ty.int (byL a (b.take k)))).up D7.stp q14)
   refine tn (wp_ret ?_)
   obtain ⟨t3, e1, h1, q42⟩ := Own.seal q41 (by decide)
   rw [← e1]
   have F11 := (F5.step0 D7.stp).step h1 (by decide)
   exact ret1 rfl ok10 F11 (cvt (by (obtain rfl : k = b.length := (by omega); rw [List.take_length])) q42)


set_option maxHeartbeats 4000000 in
set_option maxRecDepth 100000 in
theorem rRank_fn (r : List Int) (σ : GW)  (v0 : Value) (hv0 : Ty.has (Ty.lst Ty.int r) σ v0)  (hr : IsRow r) :
    FnC Try.prog 21 #[v0] σ (Ty.nat (rankL r)) := by
 have hln := hr.le
 refine fn_intro0 Try.func21 rfl Try.ntmps21 (Nat.le_of_ble_eq_true rfl) (fun s0 a0 hle F0 ok0 hargs => ?_)
 have p0 := pA hle (hargs 0 _ rfl) hv0
 have b1 := sl_le p0
 clear hargs; refine wp_seq ?_
 refine gI a0 s0 ok0 (gC (Ty.int (0 : Int)) (gE ok0 fun a1 s1 ok1 D1 => ?_)); refine tn (wp_seq ?_)
 refine gI a1 s1 ok1 (gC (Ty.int (0 : Int)) (gE ok1 fun a2 s2 ok2 D2 => ?_)); refine tn (wp_seq (wp_seq ?_))
 refine gI a2 s2 ok2 (gC (Ty.int (0 : Int)) (gE ok2 fun a3 s3 ok3 D3 => ?_)); refine tn (wp_block ?_)
 refine loop (fun n1 a4 w1 => ∃ (t1 : GW) (i : Nat) (q : Nat), t1.w = w1 ∧ FromL [] s0 t1 ∧ Ok 44 [] a4 ∧ At (Ty.nat i) t1 a4 (.tmp 4) ∧ At (Ty.nat q) t1 a4 (.tmp 3) ∧ At (Ty.lst Ty.int r) t1 a4 (.tmp 0) ∧ (i ≤ r.length) ∧ (q + rankL (r.drop i) = rankL r) ∧ n1 = r.length - i) (r.length - (0)) ?_ ?_
 ·
  exact ⟨s3, 0, 0, rfl, (((F0.step0 D1.stp).step0 D2.stp).step0 D3.stp), ok3, (cvi (by (first | rfl | omega | (simp_all; done) | (simp_all; omega))) (D3.dn 0 rfl rfl)), (cvi (by (first | rfl | omega | (simp_all; done) | (simp_all; omega))) (D3.kt (D2.dn 0 rfl rfl) rfl)), (D3.kt (D2.kt (D1.kt p0 rfl) rfl) rfl), by omega, by simp, rfl⟩
 ·
  rintro n2 a5 w2 ⟨t2, i, q, rfl, F4, ok4, q7, q8, q9, hi, hq, rfl⟩
  have hrl := rank_le12 hln
  refine wp_seq (wp_seq ?_)
  refine gI a5 t2 ok4 (gM q7 (gM q9 (gS rfl (fun A B E G H d0 => rP (y_len Try.underlying22 (ed d0 rfl rfl rfl))) (gS rfl (fun A B E G H d0 d1 => rP (y_lss (ed d0 rfl rfl rfl) (ed d1 rfl rfl rfl))) (gE ok4 fun a6 s4 ok5 D4 => ?_))))); have F5 := F4.step0 D4.stp; have q10 := D4.kt q7 rfl; have q11 := D4.kt q8 rfl; have q12 := D4.kt q9 rfl; refine tn ?_
  refine cond_p (p := (((i : Nat) : Int) < (((List.length r) : Nat) : Int))) (D4.dn 3 rfl rfl) (fun c1 => ?_) (fun c1 => ?_)
  ·
   have hmb := rank_mul hln (by omega) hq; have hbd := hr.at (i := i) (by omega)
   refine wp_skip (tn (wp_seq (wp_block (wp_seq ?_))))
   refine gI a6 s4 ok5 (gM q12 (gM q10 (gT (Ty.ref [(Ty.int (r.getD i 0))]) rfl (fun A B E G H d0 d1 => rP (y_index1 Try.underlying22 Try.inf3 (ed d0 rfl rfl rfl) (ed d1 rfl rfl rfl) (by omega) (lst_get Ty.int r 0 i (by omega)))) (gS rfl (fun A B E G H d0 => rP (y_load Try.underlying3 rfl (ed d0 rfl rfl rfl) rfl)) (gB 0 (gE ok5 fun a7 s5 ok6 D5 => ?_)))))); refine tn (wp_seq (wp_seq ?_))
   refine gI a7 s5 ok6 (gC (Ty.int (0 : Int)) (gE ok6 fun a8 s6 ok7 D6 => ?_)); refine tn (wp_block ?_)
   refine loop (fun n3 a9 w3 => ∃ (t3 : GW) (j : Nat), t3.w = w3 ∧ FromL [] s0 t3 ∧ Ok 44 [] a9 ∧ At (Ty.nat j) t3 a9 (.tmp 6) ∧ At (Ty.int (r.getD i 0 - ((lessN (r.getD i 0) (r.take j) : Nat) : Int))) t3 a9 (.tmp 5) ∧ At (Ty.nat i) t3 a9 (.tmp 4) ∧ At (Ty.nat q) t3 a9 (.tmp 3) ∧ At (Ty.lst Ty.int r) t3 a9 (.tmp 0) ∧ (j ≤ i) ∧ n3 = i - j) (i - (0)) ?_ ?_
   ·
    exact ⟨s6, 0, rfl, ((F5.step0 D5.stp).step0 D6.stp), ok7, (cvi (by (first | rfl | omega | (simp_all; done) | (simp_all; omega))) (D6.dn 0 rfl rfl)), (cvi (by (simp [lessN])) (D6.kt (D5.dn 4 rfl rfl) rfl)), (D6.kt (D5.kt q10 rfl) rfl), (D6.kt (D5.kt q11 rfl) rfl), (D6.kt (D5.kt q12 rfl) rfl), by omega, rfl⟩
   ·
    rintro n4 a10 w4 ⟨t4, j, rfl, F8, ok8, q23, q24, q25, q26, q27, hj, rfl⟩
    have hll := lessN_le (r.getD i 0) (r.take j)
    have htl := List.length_take_le j r
    refine wp_seq (wp_seq ?_)
    refine gI a10 t4 ok8 (gM q23 (gM q25 (gS rfl (fun A B E G H d0 d1 => rP (y_lss (ed d0 rfl rfl rfl) (ed d1 rfl rfl rfl))) (gE ok8 fun a11 s7 ok9 D7 => ?_)))); have F9 := F8.step0 D7.stp; have q28 := D7.kt q23 rfl; have q29 := D7.kt q24 rfl; have q30 := D7.kt q25 rfl; have q31 := D7.kt q26 rfl; have q32 := D7.kt q27 rfl; refine tn ?_
    refine cond_p (p := (((j : Nat) : Int) < ((i : Nat) : Int))) (D7.dn 2 rfl rfl) (fun c2 => ?_) (fun c2 => ?_)
    ·
     refine wp_skip (tn (wp_seq (wp_block (wp_seq ?_))))
     refine gI a11 s7 ok9 (gM q32 (gM q28 (gT (Ty.ref [(Ty.int (r.getD j 0))]) rfl (fun A B E G H d0 d1 => rP (y_index1 Try.underlying22 Try.inf3 (ed d0 rfl rfl rfl) (ed d1 rfl rfl rfl) (by omega) (lst_get Ty.int r 0 j (by omega)))) (gS rfl (fun A B E G H d0 => rP (y_load Try.underlying3 rfl (ed d0 rfl rfl rfl) rfl)) (gM q32 (gM q30 (gT (Ty.ref [(Ty.int (r.getD i 0))]) rfl (fun A B E G H d0 d1 => rP (y_index1 Try.underlying22 Try.inf3 (ed d0 rfl rfl rfl) (ed d1 rfl rfl rfl) (by omega) (lst_get Ty.int r 0 i (by omega)))) (gS rfl (fun A B E G H d0 => rP (y_load Try.underlying3 rfl (ed d0 rfl rfl rfl) rfl)) (gS rfl (fun A B E G H d0 d1 => rP (y_lss (ed d0 rfl rfl rfl) (ed d1 rfl rfl rfl))) (gE ok9 fun a12 s8 ok10 D8 => ?_)))))))))); have F10 := F9.step0 D8.stp; have q34 := D8.kt q28 rfl; have q35 := D8.kt q29 rfl; have q36 := D8.kt q30 rfl; have q37 := D8.kt q31 rfl; have q38 := D8.kt q32 rfl; refine tn ?_
     refine cond_p (p := ((r.getD j 0) < (r.getD i 0))) (D8.dn 8 rfl rfl) (fun c3 => ?_) (fun c3 => ?_)
     ·
      refine gI a12 s8 ok10 (gM q35 (gT (Ty.int ((r.getD i 0 - ((lessN (r.getD i 0) (r.take j) : Nat) : Int)) - (1 : Int))) rfl (fun A B E G H d0 => rP (y_sub (ed d0 rfl rfl rfl) rfl (w64 (by omega) (by omega)))) (gB 0 (gE ok10 fun a13 s9 ok11 D9 => ?_)))); refine bn (tn ?_)
      refine gI a13 s9 ok11 (gM (D9.kt q34 rfl) (gT (Ty.nat (j + 1)) rfl (fun A B E G H d0 => rP ((y_add (ed d0 rfl rfl rfl) rfl (w64 (by omega) (by omega))).mono (fun τ _ h => cvi (σ := τ) (by first | omega | exact (Int.natCast_mul _ _).symm) h))) (gB 0 (gE ok11 fun a14 s10 ok12 D10 => ?_))))
      exact tn ⟨i - ((j+1)), by omega, s10, (j+1), rfl, ((F10.step0 D9.stp).step0 D10.stp), ok12, (cvi (by (first | rfl | omega | (simp_all; done) | (simp_all; omega))) (D10.dn 2 rfl rfl)), (cvi (by (rw [lessN_snoc _ _ _ (by omega), if_pos (by assumption)]; omega)) (D10.kt (D9.dn 2 rfl rfl) rfl)), (D10.kt (D9.kt q36 rfl) rfl), (D10.kt (D9.kt q37 rfl) rfl), (D10.kt (D9.kt q38 rfl) rfl), by omega, rfl⟩
     ·
      refine wp_skip (bn (tn ?_))
      refine gI a12 s8 ok10 (gM q34 (gT (Ty.nat (j + 1)) rfl (fun A B E G H d0 => rP ((y_add (ed d0 rfl rfl rfl) rfl (w64 (by omega) (by omega))).mono (fun τ _ h => cvi (σ := τ) (by first | omega | exact (Int.natCast_mul _ _).symm) h))) (gB 0 (gE ok10 fun a15 s11 ok13 D11 => ?_))))
      exact tn ⟨i - ((j+1)), by omega, s11, (j+1), rfl, (F10.step0 D11.stp), ok13, (cvi (by (first | rfl | omega | (simp_all; done) | (simp_all; omega))) (D11.dn 2 rfl rfl)), (cvi (by (rw [lessN_snoc _ _ _ (by omega), if_neg (by assumption)]; rfl)) (D11.kt q35 rfl)), (D11.kt q36 rfl), (D11.kt q37 rfl), (D11.kt q38 rfl), by omega, rfl⟩
    ·
     have q55 : At (Ty.nat (lessN (r.getD i 0) (r.drop (i + 1)))) s7 a11 (.tmp 5) := cvt (T := (Ty.int (r.getD i 0 - ((lessN (r.getD i 0) (r.take j) : Nat) : Int)))) (U := (Ty.nat (lessN (r.getD i 0) (r.drop (i + 1))))) (by have e : j = i := (by omega); rw [e]; exact congrArg Ty.int (less_after hr (by omega))) q29
     refine wp_exit (tx (tx (bx (tn ?_))))
     refine gI a11 s7 ok9 (gM q31 (gM q55 (gM q32 (gS rfl (fun A B E G H d0 => rP (y_len Try.underlying22 (ed d0 rfl rfl rfl))) (gT (Ty.nat ((List.length r) - 1)) rfl (fun A B E G H d0 => rP ((y_sub (ed d0 rfl rfl rfl) rfl (w64 (by omega) (by omega))).mono (fun τ _ h => cvi (σ := τ) (by omega) h))) (gM q30 (gT (Ty.nat (((List.length r) - 1) - i)) rfl (fun A B E G H d0 d1 => rP ((y_sub (ed d0 rfl rfl rfl) (ed d1 rfl rfl rfl) (w64 (by omega) (by omega))).mono (fun τ _ h => cvi (σ := τ) (by omega) h))) (gS rfl (fun A B E G H d0 => rP (y_call _ Try.func58 rfl rfl my1 (rFact_fn (((((List.length r) - 1) - i))) ((((List.length r) - 1) - i)) _ _ (cvi (σ := B) (by omega) (ed d0 rfl rfl rfl)) (by omega) (by omega)))) (gT (Ty.nat ((lessN (r.getD i 0) (r.drop (i + 1))) * (fct ((((List.length r) - 1) - i))))) rfl (fun A B E G H d0 d1 => rP ((y_mul (ed d0 rfl rfl rfl) (ed d1 rfl rfl rfl) (w64 (by omega) (by omega))).mono (fun τ _ h => cvi (σ := τ) (by first | omega | exact (Int.natCast_mul _ _).symm) h))) (gT (Ty.nat (q + ((lessN (r.getD i 0) (r.drop (i + 1))) * (fct ((((List.length r) - 1) - i)))))) rfl (fun A B E G H d0 d1 => rP ((y_add (ed d0 rfl rfl rfl) (ed d1 rfl rfl rfl) (w64 (by omega) (by omega))).mono (fun τ _ h => cvi (σ := τ) (by first | omega | exact (Int.natCast_mul _ _).symm) h))) (gB 0 (gE ok9 fun a16 s12 ok14 D12 => ?_)))))))))))); refine bn (tn ?_)
     refine gI a16 s12 ok14 (gM (D12.kt q30 rfl) (gT (Ty.nat (i + 1)) rfl (fun A B E G H d0 => rP ((y_add (ed d0 rfl rfl rfl) rfl (w64 (by omega) (by omega))).mono (fun τ _ h => cvi (σ := τ) (by first | omega | exact (Int.natCast_mul _ _).symm) h))) (gB 0 (gE ok14 fun a17 s13 ok15 D13 => ?_))))
     exact tn ⟨r.length - ((i+1)), by omega, s13, (i+1), (q + lessN (r.getD i 0) (r.drop (i + 1)) * fct (r.length - 1 - i)), rfl, ((F9.step0 D12.stp).step0 D13.stp), ok15, (cvi (by (first | rfl | omega | (simp_all; done) | (simp_all; omega))) (D13.dn 2 rfl rfl)), (cvi (by (first | rfl | omega | (simp_all; done) | (simp_all; omega))) (D13.kt (D12.dn 10 rfl rfl) rfl)), (D13.kt (D12.kt q32 rfl) rfl), by omega, rank_step' (by omega) hq, rfl⟩
  ·
   refine wp_exit (tx (tx (bx (tn (wp_seq ?_)))))
   refine gI a6 s4 ok5 (gM q11 (gB 0 (gE ok5 fun a18 s14 ok16 D14 => ?_))); refine tn (wp_ret ?_)
   exact retL1 rfl ok16 (F5.step0 D14.stp) (cvi (by (obtain rfl : i = r.length := (by omega); exact congrArg _ (by rw [List.drop_length] at hq; exact hq))) (D14.dn 1 rfl rfl))

theorem Try.inf4 : Info Try.prog 4 (.bool false) 1 1 := by unfold Info; kernel_rfl
theorem Try.inf22 : Info Try.prog 22 (.slice none 0 0) 1 24 := by unfold Info; kernel_rfl
set_option maxHeartbeats 4000000 in
set_option maxRecDepth 100000 in
theorem rClosed_fn (n : Nat) (gens : List (List Int)) (most : Nat) (σ : GW) (hlow : Low [] σ) (v0 v1 v2 : Value) (hv0 : Ty.has (Ty.nat n) σ v0) (hv1 : Ty.has (Ty.lst Ty.ints gens) σ v1) (hv2 : Ty.has (Ty.nat most) σ v2)  (hn : 1 ≤ n ∧ n ≤ 12) (hg : ∀ x ∈ gens, RowN n x) (hgl : gens.length ≤ 1000) (hms : 1 ≤ most ∧ most ≤ 100000) :
    FnL Try.prog 19 #[v0, v1, v2] σ [] (fun v τ => ∃ (R : (List (List Int))), ∃ (W : (List (List Int))), (Ty.has (Ty.tup2 (Ty.lst Ty.ints R) (Ty.lst Ty.ints W)) τ v) ∧ (ClosedP n gens most R W)) := by
 refine fn_introL hlow Try.func19 rfl Try.ntmps19 (Nat.le_of_ble_eq_true rfl) (fun a0 F0 ok0 hargs => ?_)
 have p0 := pB (hargs 0 _ rfl) hv0
 have p1 := pB (hargs 1 _ rfl) hv1
 have b1 := sl_le p1
 have p2 := pB (hargs 2 _ rfl) hv2
 clear hargs; refine wp_seq ?_
 refine gI a0 σ ok0 (gC (Ty.val (Value.slice none 0 0)) (gC (Ty.val (Value.slice none 0 0)) (gE ok0 fun a1 s1 ok1 D1 => ?_))); refine tn (wp_seq ?_)
 refine gI a1 s1 ok1 (gM (D1.kt p0 rfl) (gS rfl (fun A B E G H d0 => rP (y_call _ Try.func39 rfl rfl my1 (rRounds_fn (n) _ _ (ed d0 rfl rfl rfl) (by omega)))) (gR (Pr.own 20 22 1 1 (List.map Ty.ints [(roundsL n)])) rfl (by intro A B E G H d0; exact rP ((y_lit1 (k := 20) Try.underlying24 Try.inf22 rfl (one_sl) (ed d0 rfl rfl rfl)).mono (fun _ _ h => cvo (by simp) (by first | (simp; done) | rfl) h))) (gE2 ok1 fun a2 s2 ok2 D2 => ?_))))
 obtain ⟨x1, hx1⟩ : ∃ x, a2.eval (.tmp 19) = x := ⟨_, rfl⟩
 have q6 : At (Ty.val x1) s2 a2 (.tmp 19) := hx1
 have o1 := al2 (R := (Pr.own 20 22 1 1 (List.map Ty.ints [(roundsL n)]))) hx1 (D2.done 2 (by decide))
 refine tL ok2 (Yld.toL (y_as q6)) fun a3 s3 hs1 ok3 r1 sm1 => ?_
 have F3 := ((F0.step0 D1.stp).step0 D2.stp).stepL hs1 (by decide); have q7 := kpL hs1 (by decide) (sm1 1 (by decide)) (D2.kt (D1.kt p1 rfl) rfl); have q8 := kpL hs1 (by decide) (sm1 2 (by decide)) (D2.kt (D1.kt p2 rfl) rfl); have o2 := Own.keepL o1 hs1 (by decide) (by decide)
 have q9 : At (Ty.val x1) s3 a3 (.tmp 8) := r1
 clear r1; refine wpList_nil (tn (wp_seq ?_))
 refine gI a3 s3 ok3 (gR (Pr.own 21 22 1 1 (List.map Ty.ints [([] : List Int)])) rfl (by intro A B E G H; exact rP ((y_lit1 (k := 21) Try.underlying24 Try.inf22 rfl (one_sl) (nil_lst (f := Ty.int) (xs := ([] : List Int)) rfl (show Ty.has (Ty.val (Value.slice none 0 0)) B (A.eval ((Operand.const (Value.slice none 0 0)))) from rfl))).mono (fun _ _ h => cvo (by simp) (by first | (simp; done) | rfl) h))) (gE2 ok3 fun a4 s4 ok4 D3 => ?_)); have o3 := Own.k0 o2 D3.stp
 obtain ⟨x2, hx2⟩ : ∃ x, a4.eval (.tmp 20) = x := ⟨_, rfl⟩
 have q13 : At (Ty.val x2) s4 a4 (.tmp 20) := hx2
 have o4 := al2 (R := (Pr.own 21 22 1 1 (List.map Ty.ints [([] : List Int)]))) hx2 (D3.done 0 (by decide))
 refine tL ok4 (Yld.toL (y_as q13)) fun a5 s5 hs2 ok5 r2 sm2 => ?_
 have F5 := (F3.step0 D3.stp).stepL hs2 (by decide); have q14 := kpL hs2 (by decide) (sm2 1 (by decide)) (D3.kt q7 rfl); have q15 := kpL hs2 (by decide) (sm2 2 (by decide)) (D3.kt q8 rfl); have q16 := kpL hs2 (by decide) (sm2 8 (by decide)) (D3.kt q9 rfl); have o5 := Own.keepL o3 hs2 (by decide) (by decide); have o6 := Own.keepL o4 hs2 (by decide) (by decide)
 have q17 : At (Ty.val x2) s5 a5 (.tmp 9) := r2
 clear r2; refine wpList_nil (tn (wp_seq ?_))
 refine gI a5 s5 ok5 (gR (Pr.ownm Ty.bool kI 22 (fun _ => none : Int → Option Bool)) rfl (by intro A B E G H; exact rP (y_makemap 22)) (gE2 ok5 fun a6 s6 ok6 D4 => ?_)); have o7 := Own.k0 o5 D4.stp; have o8 := Own.k0 o6 D4.stp
 obtain ⟨x3, hx3⟩ : ∃ x, a6.eval (.tmp 21) = x := ⟨_, rfl⟩
 have q22 : At (Ty.val x3) s6 a6 (.tmp 21) := hx3
 have o9 := al2 (R := (Pr.ownm Ty.bool kI 22 (fun _ => none : Int → Option Bool))) hx3 (D4.done 0 (by decide))
 refine tailL0 (L := [22]) (R := (fun _ τ => OwnM Ty.bool kI τ 22 x3 (fun x_ => if x_ = (0 : Int) then some true else (fun _ => none : Int → Option Bool) x_))) rfl rfl (YldM.toL (m_mapins (i := (0 : Int)) Try.underlying35 (keyInt Try.underlying3) (by decide) o9 q22 rfl rfl)) (fun v1 s7 hs3 r3 => ?_)
 have F7 := (F5.step0 D4.stp).stepL hs3 (by decide); have q23 := kpL hs3 (by decide) rfl (D4.kt q14 rfl); have q24 := kpL hs3 (by decide) rfl (D4.kt q15 rfl); have q25 := kpL hs3 (by decide) rfl (D4.kt q16 rfl); have q26 := kpL hs3 (by decide) rfl (D4.kt q17 rfl); have q27 := kpL hs3 (by decide) rfl q22; have o11 := Own.keepL o7 hs3 (by decide) (by decide); have o12 := Own.keepL o8 hs3 (by decide) (by decide)
 have o10 : OwnM Ty.bool kI s7 22 x3 (fun x_ => if x_ = (0 : Int) then some true else (fun _ => none : Int → Option Bool) x_) := r3
 clear r3
 refine tL ok6 (Yld.toL (y_mv q27)) fun a7 s8 hs4 ok7 r4 sm3 => ?_
 have F8 := F7.stepL hs4 (by decide); have q29 := kpL hs4 (by decide) (sm3 1 (by decide)) q23; have q30 := kpL hs4 (by decide) (sm3 2 (by decide)) q24; have q31 := kpL hs4 (by decide) (sm3 8 (by decide)) q25; have q32 := kpL hs4 (by decide) (sm3 9 (by decide)) q26; have o13 := Own.keepL o11 hs4 (by decide) (by decide); have o14 := Own.keepL o12 hs4 (by decide) (by decide); have o15 := OwnM.keepL o10 hs4 (by decide) (by decide)
 have q33 : At (Ty.val x3) s8 a7 (.tmp 22) := r4
 clear r4
 refine tL ok7 (Yld.toL (y_as q33)) fun a8 s9 hs5 ok8 r5 sm4 => ?_
 have F9 := F8.stepL hs5 (by decide); have q34 := kpL hs5 (by decide) (sm4 1 (by decide)) q29; have q35 := kpL hs5 (by decide) (sm4 2 (by decide)) q30; have q36 := kpL hs5 (by decide) (sm4 8 (by decide)) q31; have q37 := kpL hs5 (by decide) (sm4 9 (by decide)) q32; have o16 := Own.keepL o13 hs5 (by decide) (by decide); have o17 := Own.keepL o14 hs5 (by decide) (by decide); have o18 := OwnM.keepL o15 hs5 (by decide) (by decide)
 have q38 : At (Ty.val x3) s9 a8 (.tmp 10) := r5
 clear r5; refine wpList_nil (tn (wp_seq (wp_seq ?_)))
 refine gI a8 s9 ok8 (gC (Ty.int (0 : Int)) (gE ok8 fun a9 s10 ok9 D5 => ?_)); have o19 := Own.k0 o16 D5.stp; have o20 := Own.k0 o17 D5.stp; have o21 := OwnM.k0 o18 D5.stp; refine tn (wp_block ?_)
 refine loop (fun n1 a10 w1 => ∃ (t1 : GW) (i : Nat) (L : (List (List Int))) (W : (List (List Int))) (f : (Int → Option Bool)) (x8_0 x9_0 : Value), t1.w = w1 ∧ FromL [] σ t1 ∧ Ok 86 [] a10 ∧ At (Ty.nat i) t1 a10 (.tmp 11) ∧ At (Ty.val x8_0) t1 a10 (.tmp 8) ∧ At (Ty.val x9_0) t1 a10 (.tmp 9) ∧ At (Ty.lst Ty.ints gens) t1 a10 (.tmp 1) ∧ At (Ty.nat most) t1 a10 (.tmp 2) ∧ At (Ty.val x3) t1 a10 (.tmp 10) ∧ Own t1 20 22 1 x8_0 (List.length L) (List.map Ty.ints L) ∧ Own t1 21 22 1 x9_0 (List.length W) (List.map Ty.ints W) ∧ OwnM Ty.bool kI t1 22 x3 f ∧ (i ≤ L.length) ∧ (L.length ≤ most) ∧ (ClI n gens L W i 0) ∧ (SeenB n L f) ∧ (WordsB W) ∧ n1 = most - i) (most - (0)) ?_ ?_
 ·
  exact ⟨s10, 0, [roundsL n], [[]], (fun x => if x = (0 : Int) then some true else (fun _ => none) x), x1, x2, rfl, (F9.step0 D5.stp), ok9, (cvi (by (first | rfl | omega | (simp_all; done) | (simp_all; omega))) (D5.dn 0 rfl rfl)), (D5.kt q36 rfl), (D5.kt q37 rfl), (D5.kt q34 rfl), (D5.kt q35 rfl), (D5.kt q38 rfl), (cvo (by (first | rfl | simp)) (by (first | rfl | simp)) o19), (cvo (by (first | rfl | simp)) (by (first | rfl | simp)) o20), (cvm (by (rfl)) o21), by simp, hms.1, ClI.start, seenC_start hn, wordsB_start, rfl⟩
 ·
  rintro n2 a11 w2 ⟨t2, i, L, W, f, x8_0, x9_0, rfl, F11, ok10, q45, q46, q47, q48, q49, q50, o22, o23, o24, hi, hl, hC, hsn, hwb, rfl⟩
  have hwl := hC.wl
  refine wp_seq (wp_seq ?_)
  refine gI a11 t2 ok10 (gM q45 (gM q46 (gT (Ty.nat (List.length L)) rfl (fun A B E G H d0 => rP (own_len Try.underlying24 (al (R := (Pr.own 20 22 1 (List.length L) (List.map Ty.ints L))) (ed d0 rfl rfl rfl) (Own.k0 o22 E)))) (gS rfl (fun A B E G H d0 d1 => rP (y_lss (ed d0 rfl rfl rfl) (ed d1 rfl rfl rfl))) (gE ok10 fun a12 s11 ok11 D6 => ?_))))); have F12 := F11.step0 D6.stp; have q52 := D6.kt q46 rfl; have q53 := D6.kt q47 rfl; have o25 := Own.k0 o22 D6.stp; have o26 := Own.k0 o23 D6.stp; have o27 := OwnM.k0 o24 D6.stp; refine tn ?_
  refine cond_p (p := (((i : Nat) : Int) < (((List.length L) : Nat) : Int))) (D6.dn 3 rfl rfl) (fun c1 => ?_) (fun c1 => ?_)
  ·
   refine wp_skip (tn (wp_seq (wp_block (wp_seq ?_))))
   refine gI a12 s11 ok11 (gC (Ty.int (0 : Int)) (gE ok11 fun a13 s12 ok12 D7 => ?_)); have o28 := Own.k0 o25 D7.stp; have o29 := Own.k0 o26 D7.stp; have o30 := OwnM.k0 o27 D7.stp; refine tn (wp_block ?_)
   refine loop (fun n3 a14 w3 => ∃ (t3 : GW) (j : Nat) (L2 : (List (List Int))) (W2 : (List (List Int))) (f2 : (Int → Option Bool)) (x8_1 x9_1 : Value), t3.w = w3 ∧ FromL [] σ t3 ∧ Ok 86 [] a14 ∧ At (Ty.nat j) t3 a14 (.tmp 12) ∧ At (Ty.val x8_1) t3 a14 (.tmp 8) ∧ At (Ty.val x9_1) t3 a14 (.tmp 9) ∧ At (Ty.nat i) t3 a14 (.tmp 11) ∧ At (Ty.lst Ty.ints gens) t3 a14 (.tmp 1) ∧ At (Ty.nat most) t3 a14 (.tmp 2) ∧ At (Ty.val x3) t3 a14 (.tmp 10) ∧ Own t3 20 22 1 x8_1 (List.length L2) (List.map Ty.ints L2) ∧ Own t3 21 22 1 x9_1 (List.length W2) (List.map Ty.ints W2) ∧ OwnM Ty.bool kI t3 22 x3 f2 ∧ (j ≤ 2 * gens.length) ∧ (i < L2.length) ∧ (L2.length ≤ most) ∧ (ClI n gens L2 W2 i j) ∧ (SeenB n L2 f2) ∧ (WordsB W2) ∧ n3 = 2 * gens.length - j) (2 * gens.length - (0)) ?_ ?_
   ·
    exact ⟨s12, 0, L, W, f, x8_0, x9_0, rfl, (F12.step0 D7.stp), ok12, (cvi (by (first | rfl | omega | (simp_all; done) | (simp_all; omega))) (D7.dn 0 rfl rfl)), (D7.kt q52 rfl), (D7.kt q53 rfl), (D7.kt (D6.kt q45 rfl) rfl), (D7.kt (D6.kt q48 rfl) rfl), (D7.kt (D6.kt q49 rfl) rfl), (D7.kt (D6.kt q50 rfl) rfl), (cvo (by (simp)) (by (simp)) o28), (cvo (by (simp)) (by (simp)) o29), (cvm (by (rfl)) o30), by omega, by omega, hl, hC, hsn, hwb, rfl⟩
   ·
    rintro n4 a15 w4 ⟨t4, j, L2, W2, f2, x8_1, x9_1, rfl, F14, ok13, q65, q66, q67, q68, q69, q70, q71, o31, o32, o33, hj, hil, hl2, hC2, hsn2, hwb2, rfl⟩
    have hwl2 := hC2.wl
    refine wp_seq (wp_seq ?_)
    refine gI a15 t4 ok13 (gM q65 (gM q69 (gS rfl (fun A B E G H d0 => rP (y_len Try.underlying24 (ed d0 rfl rfl rfl))) (gT (Ty.nat (2 * (List.length gens))) rfl (fun A B E G H d0 => rP ((y_mul rfl (ed d0 rfl rfl rfl) (w64 (by omega) (by omega))).mono (fun τ _ h => cvi (σ := τ) (by first | omega | exact (Int.natCast_mul _ _).symm) h))) (gS rfl (fun A B E G H d0 d1 => rP (y_lss (ed d0 rfl rfl rfl) (ed d1 rfl rfl rfl))) (gE ok13 fun a16 s13 ok14 D8 => ?_)))))); have F15 := F14.step0 D8.stp; have q72 := D8.kt q65 rfl; have q73 := D8.kt q66 rfl; have q74 := D8.kt q67 rfl; have q75 := D8.kt q68 rfl; have q76 := D8.kt q69 rfl; have q77 := D8.kt q70 rfl; have q78 := D8.kt q71 rfl; have o34 := Own.k0 o31 D8.stp; have o35 := Own.k0 o32 D8.stp; have o36 := OwnM.k0 o33 D8.stp; refine tn ?_
    refine cond_p (p := (((j : Nat) : Int) < (((2 * (List.length gens)) : Nat) : Int))) (D8.dn 4 rfl rfl) (fun c2 => ?_) (fun c2 => ?_)
    ·
     obtain ⟨hf1, hf2, hf3, hf4, hf5, hf6⟩ := hC2.fits hn hg hil (by omega)
     refine wp_skip (tn (wp_seq (wp_block (wp_seq ?_))))
     refine gI a16 s13 ok14 (gM q76 (gM q72 (gT (Ty.nat (j / 2)) rfl (fun A B E G H d0 => rP (y_quoN (ed d0 rfl rfl rfl) (toN (σ := B) rfl (by omega)) (by omega) (by omega))) (gT (Ty.ref [(Ty.lst Ty.int (gens.getD (j / 2) []))]) rfl (fun A B E G H d0 d1 => rP (y_index1 Try.underlying24 Try.inf22 (ed d0 rfl rfl rfl) (ed d1 rfl rfl rfl) (by omega) (lst_get Ty.ints gens [] (j / 2) (by omega)))) (gS rfl (fun A B E G H d0 => rP (y_load Try.underlying22 rfl (ed d0 rfl rfl rfl) rfl)) (gB 0 (gE ok14 fun a17 s14 ok15 D9 => ?_))))))); have q80 := D9.kt q72 rfl; have o37 := Own.k0 o34 D9.stp; have o38 := Own.k0 o35 D9.stp; have o39 := OwnM.k0 o36 D9.stp; refine tn (wp_seq ?_)
     refine gI a17 s14 ok15 (gM q80 (gT (Ty.nat (j / 2)) rfl (fun A B E G H d0 => rP (y_quoN (ed d0 rfl rfl rfl) (toN (σ := B) rfl (by omega)) (by omega) (by omega))) (gT (Ty.nat ((j / 2) + 1)) rfl (fun A B E G H d0 => rP ((y_add (ed d0 rfl rfl rfl) rfl (w64 (by omega) (by omega))).mono (fun τ _ h => cvi (σ := τ) (by first | omega | exact (Int.natCast_mul _ _).symm) h))) (gB 0 (gE ok15 fun a18 s15 ok16 D10 => ?_))))); have q88 := D10.kt q80 rfl; have o40 := Own.k0 o37 D10.stp; have o41 := Own.k0 o38 D10.stp; have o42 := OwnM.k0 o39 D10.stp; refine tn (wp_seq (wp_seq ?_))
     refine gI a18 s15 ok16 (gM q88 (gT (Ty.nat (j % 2)) rfl (fun A B E G H d0 => rP (y_remN (ed d0 rfl rfl rfl) (toN (σ := B) rfl (by omega)) (by omega))) (gS rfl (fun A B E G H d0 => rP (y_eql (ed d0 rfl rfl rfl) rfl)) (gE ok16 fun a19 s16 ok17 D11 => ?_)))); have F18 := ((F15.step0 D9.stp).step0 D10.stp).step0 D11.stp; have q97 := D11.kt q88 rfl; have q98 := D11.kt (D10.kt (D9.kt q73 rfl) rfl) rfl; have q99 := D11.kt (D10.kt (D9.kt q74 rfl) rfl) rfl; have q100 := D11.kt (D10.kt (D9.kt q75 rfl) rfl) rfl; have q101 := D11.kt (D10.kt (D9.kt q76 rfl) rfl) rfl; have q102 := D11.kt (D10.kt (D9.kt q77 rfl) rfl) rfl; have q103 := D11.kt (D10.kt (D9.kt q78 rfl) rfl) rfl; have q104 := D11.kt (D10.kt (D9.dn 5 rfl rfl) rfl) rfl; have q105 := D11.kt (D10.dn 3 rfl rfl) rfl; have o43 := Own.k0 o40 D11.stp; have o44 := Own.k0 o41 D11.stp; have o45 := OwnM.k0 o42 D11.stp; refine tn ?_
     refine Go.KL.join_then (Q' := fun a20 w5 => ∃ (t5 : GW), t5.w = w5 ∧ FromL [] σ t5 ∧ Ok 86 [] a20 ∧ At (Ty.lst Ty.int (ltr gens j)) t5 a20 (.tmp 13) ∧ At (Ty.int (ltrN j)) t5 a20 (.tmp 14) ∧ At (Ty.nat j) t5 a20 (.tmp 12) ∧ At (Ty.val x8_1) t5 a20 (.tmp 8) ∧ At (Ty.val x9_1) t5 a20 (.tmp 9) ∧ At (Ty.nat i) t5 a20 (.tmp 11) ∧ At (Ty.lst Ty.ints gens) t5 a20 (.tmp 1) ∧ At (Ty.nat most) t5 a20 (.tmp 2) ∧ At (Ty.val x3) t5 a20 (.tmp 10) ∧ Own t5 20 22 1 x8_1 (List.length L2) (List.map Ty.ints L2) ∧ Own t5 21 22 1 x9_1 (List.length W2) (List.map Ty.ints W2) ∧ OwnM Ty.bool kI t5 22 x3 f2 ∧ True) ?_ ?_
     ·
      refine cond_p (p := ((((j % 2) : Nat) : Int) = (1 : Int))) (D11.dn 2 rfl rfl) (fun c3 => ?_) (fun c3 => ?_)
      ·
       refine wp_seq ?_
       refine gI a19 s16 ok17 (gM q104 (gS rfl (fun A B E G H d0 => rP (y_call _ Try.func23 rfl rfl my1 (rUndo_fn ((gens.getD (j / 2) [])) _ _ (ed d0 rfl rfl rfl) (by assumption)))) (gB 0 (gE ok17 fun a21 s17 ok18 D12 => ?_)))); have o46 := Own.k0 o43 D12.stp; have o47 := Own.k0 o44 D12.stp; have o48 := OwnM.k0 o45 D12.stp; refine tn ?_
       refine gI a21 s17 ok18 (gM (D12.kt q105 rfl) (gT (Ty.int (-((((j / 2) + 1) : Nat) : Int))) rfl (fun A B E G H d0 => rP (y_neg (ed d0 rfl rfl rfl) (w64 (by omega) (by omega)))) (gB 0 (gE ok18 fun a22 s18 ok19 D13 => ?_)))); have o49 := Own.k0 o46 D13.stp; have o50 := Own.k0 o47 D13.stp; have o51 := OwnM.k0 o48 D13.stp
       exact tn ⟨s18, rfl, ((F18.step0 D12.stp).step0 D13.stp), ok19, (cvt (by (unfold ltr; rw [if_pos (by omega)])) (D13.kt (D12.dn 2 rfl rfl) rfl)), (cvi (by (unfold ltrN; rw [if_pos (by omega)])) (D13.dn 2 rfl rfl)), (D13.kt (D12.kt q97 rfl) rfl), (D13.kt (D12.kt q98 rfl) rfl), (D13.kt (D12.kt q99 rfl) rfl), (D13.kt (D12.kt q100 rfl) rfl), (D13.kt (D12.kt q101 rfl) rfl), (D13.kt (D12.kt q102 rfl) rfl), (D13.kt (D12.kt q103 rfl) rfl), o49, o50, o51, trivial⟩
      ·
       refine wp_skip ?_
       exact tn ⟨s16, rfl, F18, ok17, (cvt (by (unfold ltr; rw [if_neg (by omega)])) q104), (cvi (by (unfold ltrN; rw [if_neg (by omega)])) q105), q97, q98, q99, q100, q101, q102, q103, o43, o44, o45, trivial⟩
     ·
      rintro a23 w6 ⟨t6, rfl, F21, ok20, q125, q126, q127, q128, q129, q130, q131, q132, q133, o52, o53, o54, -⟩
      refine wp_seq ?_
      refine gI a23 t6 ok20 (gM q128 (gM q130 (gT (Ty.val (cellPtr x8_1 i)) rfl (fun A B E G H d0 d1 => rP (own_index1 (i := ((i : Nat) : Int)) Try.underlying24 Try.inf22 (Own.k0 o52 E) (ed d0 rfl rfl rfl) (ed d1 rfl rfl rfl) (by omega) (by omega))) (gS rfl (fun A B E G H d0 => rP (own_load Try.underlying22 rfl (Own.k0 o52 E) (ed d0 rfl rfl rfl) (lst_get Ty.ints L2 [] i (by omega)))) (gM q125 (gS rfl (fun A B E G H d0 d1 => rP (y_call _ Try.func22 rfl rfl my2 (rBy_fn ((L2.getD i [])) ((ltr gens j)) _ _ _ (ed d0 rfl rfl rfl) (ed d1 rfl rfl rfl) (by first | assumption | omega) (by first | assumption | omega)))) (gB 0 (gE ok20 fun a24 s19 ok21 D14 => ?_)))))))); have o55 := Own.k0 o52 D14.stp; have o56 := Own.k0 o53 D14.stp; have o57 := OwnM.k0 o54 D14.stp; have q142 := D14.dn 6 rfl rfl; refine tn (wp_seq ?_)
      refine gI a24 s19 ok21 (gM q142 (gS rfl (fun A B E G H d0 => rP (y_call _ Try.func21 rfl rfl my1 (rRank_fn ((byL ((L2.getD i [])) ((ltr gens j)))) _ _ (ed d0 rfl rfl rfl) (by first | omega | assumption)))) (gB 0 (gE ok21 fun a25 s20 ok22 D15 => ?_)))); have q150 := D15.kt (D14.kt q133 rfl) rfl; have o58 := Own.k0 o55 D15.stp; have o59 := Own.k0 o56 D15.stp; have o60 := OwnM.k0 o57 D15.stp; have q152 := D15.dn 2 rfl rfl; refine tn (wp_seq (wp_seq ?_))
      refine gI a25 s20 ok22 (gM q150 (gM q152 (gT (Ty.bool ((f2 (((rankL ((byL ((L2.getD i [])) ((ltr gens j))))) : Nat) : Int)).getD false)) rfl (fun A B E G H d0 d1 => rP (y_lookup (i := (((rankL ((byL ((L2.getD i [])) ((ltr gens j))))) : Nat) : Int)) (z := false) Try.underlying35 (keyInt Try.underlying3) Try.inf4 (fun _ => rfl) (OwnM.k0 o60 E) (ed d0 rfl rfl rfl) (ed d1 rfl rfl rfl))) (gE ok22 fun a26 s21 ok23 D16 => ?_)))); have F24 := ((F21.step0 D14.stp).step0 D15.stp).step0 D16.stp; have q154 := D16.kt (D15.kt (D14.kt q127 rfl) rfl) rfl; have q155 := D16.kt (D15.kt (D14.kt q128 rfl) rfl) rfl; have q156 := D16.kt (D15.kt (D14.kt q129 rfl) rfl) rfl; have q157 := D16.kt (D15.kt (D14.kt q130 rfl) rfl) rfl; have q158 := D16.kt (D15.kt (D14.kt q131 rfl) rfl) rfl; have q159 := D16.kt (D15.kt (D14.kt q132 rfl) rfl) rfl; have q160 := D16.kt q150 rfl; have o61 := Own.k0 o58 D16.stp; have o62 := Own.k0 o59 D16.stp; have o63 := OwnM.k0 o60 D16.stp; refine tn ?_
      refine cond_t (D16.dn 2 rfl rfl) (fun c4 => ?_) (fun c4 => ?_)
      ·
       have hm : (byL (L2.getD i []) (ltr gens j)) ∈ L2 := (by have h_ := hsn2 _ hf4 hf5; rw [c4] at h_; exact of_decide_eq_true h_.symm)
       refine wp_exit (tx (bx (tn ?_)))
       refine gI a26 s21 ok23 (gM q154 (gT (Ty.nat (j + 1)) rfl (fun A B E G H d0 => rP ((y_add (ed d0 rfl rfl rfl) rfl (w64 (by omega) (by omega))).mono (fun τ _ h => cvi (σ := τ) (by first | omega | exact (Int.natCast_mul _ _).symm) h))) (gB 0 (gE ok23 fun a27 s22 ok24 D17 => ?_)))); have o64 := Own.k0 o61 D17.stp; have o65 := Own.k0 o62 D17.stp; have o66 := OwnM.k0 o63 D17.stp
       exact tn ⟨2 * gens.length - ((j+1)), by omega, s22, (j+1), L2, W2, f2, x8_1, x9_1, rfl, (F24.step0 D17.stp), ok24, (cvi (by (first | rfl | omega | (simp_all; done) | (simp_all; omega))) (D17.dn 2 rfl rfl)), (D17.kt q155 rfl), (D17.kt q156 rfl), (D17.kt q157 rfl), (D17.kt q158 rfl), (D17.kt q159 rfl), (D17.kt q160 rfl), o64, o65, o66, by omega, hil, hl2, hC2.old hm, hsn2, hwb2, rfl⟩
      ·
       have hm : (byL (L2.getD i []) (ltr gens j)) ∉ L2 := (by have h_ := hsn2 _ hf4 hf5; rw [c4] at h_; exact of_decide_eq_false h_.symm); have hC5 := hC2.new (w := (W2.getD i [] ++ [ltrN j])) hn hg hil (by omega) hm; have hsn5 := hsn2.put hf4 hf5; have hwi := hwb2 i (by omega)
       refine wp_skip (tn (wp_seq ?_))
       refine gI a26 s21 ok23 (gM q160 (gM (D16.kt q152 rfl) (gE2 ok23 fun a28 s23 ok25 D18 => ?_))); have o67 := Own.k0 o61 D18.stp; have o68 := Own.k0 o62 D18.stp; have o69 := OwnM.k0 o63 D18.stp
       have q180 : At (Ty.val x3) s23 a28 (.tmp 62) := D18.done 0 (by decide)
       refine tailL0 (L := [22]) (R := (fun _ τ => OwnM Ty.bool kI τ 22 x3 (fun x_ => if x_ = (((rankL ((byL ((L2.getD i [])) ((ltr gens j))))) : Nat) : Int) then some true else f2 x_))) rfl rfl (YldM.toL (m_mapset (i := (((rankL ((byL ((L2.getD i [])) ((ltr gens j))))) : Nat) : Int)) Try.underlying35 (keyInt Try.underlying3) (by decide) o69 q180 (D18.dn 1 (by decide) rfl rfl) rfl)) (fun v2 s24 hs6 r6 => ?_)
       have F27 := (F24.step0 D18.stp).stepL hs6 (by decide); have q182 := kpL hs6 (by decide) rfl (D18.kt (D16.kt (D15.kt (D14.kt q126 rfl) rfl) rfl) rfl); have q183 := kpL hs6 (by decide) rfl (D18.kt q154 rfl); have q184 := kpL hs6 (by decide) rfl (D18.kt q155 rfl); have q185 := kpL hs6 (by decide) rfl (D18.kt q156 rfl); have q186 := kpL hs6 (by decide) rfl (D18.kt q157 rfl); have q187 := kpL hs6 (by decide) rfl (D18.kt q158 rfl); have q188 := kpL hs6 (by decide) rfl (D18.kt q159 rfl); have q189 := kpL hs6 (by decide) rfl (D18.kt q160 rfl); have q190 := kpL hs6 (by decide) rfl (D18.kt (D16.kt (D15.kt q142 rfl) rfl) rfl); have o71 := Own.keepL o67 hs6 (by decide) (by decide); have o72 := Own.keepL o68 hs6 (by decide) (by decide)
       have o70 : OwnM Ty.bool kI s24 22 x3 (fun x_ => if x_ = (((rankL ((byL ((L2.getD i [])) ((ltr gens j))))) : Nat) : Int) then some true else f2 x_) := r6
       clear r6; refine wpList_nil (tn (wp_seq ?_))
       refine gI a28 s24 ok25 (gM q184 (gM q190 (gT (Ty.sl 1 1 [(Ty.lst Ty.int (byL ((L2.getD i [])) ((ltr gens j))))]) rfl (fun A B E G H d0 => rP (y_build1o Try.underlying24 Try.inf22 rfl (one_sl) (ed d0 rfl rfl rfl))) (gE2 ok25 fun a29 s25 ok26 D19 => ?_)))); have o73 := Own.k0 o71 D19.stp; have o74 := Own.k0 o72 D19.stp; have o75 := OwnM.k0 o70 D19.stp
       have q200 : At (Ty.val x8_1) s25 a29 (.tmp 64) := D19.done 0 (by decide)
       have q201 := D19.dn 2 (by decide) rfl rfl
       have b2 := sl_le q201
       refine tL ok26 (YldM.toL (m_append Try.underlying24 Try.inf22 (by decide) rfl (by decide) (al (R := (Pr.own 20 22 1 (List.length L2) (List.map Ty.ints L2))) q200 o73) q201 (by intro U hU; simp at hU; subst hU; exact one_sl) (by omega) (by omega))) fun a30 s26 hs7 ok27 r7 sm5 => ?_
       have F29 := (F27.step0 D19.stp).stepL hs7 (by decide); have q202 := kpL hs7 (by decide) (sm5 14 (by decide)) (D19.kt q182 rfl); have q203 := kpL hs7 (by decide) (sm5 12 (by decide)) (D19.kt q183 rfl); have q204 := kpL hs7 (by decide) (sm5 8 (by decide)) (D19.kt q184 rfl); have q205 := kpL hs7 (by decide) (sm5 9 (by decide)) (D19.kt q185 rfl); have q206 := kpL hs7 (by decide) (sm5 11 (by decide)) (D19.kt q186 rfl); have q207 := kpL hs7 (by decide) (sm5 1 (by decide)) (D19.kt q187 rfl); have q208 := kpL hs7 (by decide) (sm5 2 (by decide)) (D19.kt q188 rfl); have q209 := kpL hs7 (by decide) (sm5 10 (by decide)) (D19.kt q189 rfl); have o77 := Own.keepL o74 hs7 (by decide) (by decide); have o78 := OwnM.keepL o75 hs7 (by decide) (by decide)
       obtain ⟨x4, hx4⟩ : ∃ x, a30.eval (.tmp 67) = x := ⟨_, rfl⟩
       have q210 : At (Ty.val x4) s26 a30 (.tmp 67) := hx4
       have o76 := al2 (R := (Pr.own 20 22 1 (List.length (L2 ++ [(byL ((L2.getD i [])) ((ltr gens j)))])) (List.map Ty.ints (L2 ++ [(byL ((L2.getD i [])) ((ltr gens j)))])))) hx4 (cvo (by simp) (by first | (rw [List.map_append]; rfl) | simp) r7)
       clear r7
       refine tL ok27 (Yld.toL (y_as q210)) fun a31 s27 hs8 ok28 r8 sm6 => ?_
       have F30 := F29.stepL hs8 (by decide); have q211 := kpL hs8 (by decide) (sm6 14 (by decide)) q202; have q212 := kpL hs8 (by decide) (sm6 12 (by decide)) q203; have q213 := kpL hs8 (by decide) (sm6 9 (by decide)) q205; have q214 := kpL hs8 (by decide) (sm6 11 (by decide)) q206; have q215 := kpL hs8 (by decide) (sm6 1 (by decide)) q207; have q216 := kpL hs8 (by decide) (sm6 2 (by decide)) q208; have q217 := kpL hs8 (by decide) (sm6 10 (by decide)) q209; have o79 := Own.keepL o77 hs8 (by decide) (by decide); have o80 := OwnM.keepL o78 hs8 (by decide) (by decide); have o81 := Own.keepL o76 hs8 (by decide) (by decide)
       have q218 : At (Ty.val x4) s27 a31 (.tmp 8) := r8
       clear r8; refine wpList_nil (tn (wp_seq ?_))
       refine gI a31 s27 ok28 (gM q213 (gR (Pr.own 24 3 1 0 (List.map Ty.int ([] : List Int))) rfl (by intro A B E G H; exact rP ((y_lit0 (k := 24) Try.underlying22 Try.inf3).mono (fun _ _ h => cvo (by simp) (by simp) h))) (gM q213 (gM q214 (gT (Ty.val (cellPtr x9_1 i)) rfl (fun A B E G H d0 d1 => rP (own_index1 (i := ((i : Nat) : Int)) Try.underlying24 Try.inf22 (Own.k0 o79 E) (ed d0 rfl rfl rfl) (ed d1 rfl rfl rfl) (by omega) (by omega))) (gS rfl (fun A B E G H d0 => rP (own_load Try.underlying22 rfl (Own.k0 o79 E) (ed d0 rfl rfl rfl) (lst_get Ty.ints W2 [] i (by omega)))) (gE2 ok28 fun a32 s28 ok29 D20 => ?_))))))); have o82 := Own.k0 o79 D20.stp; have o83 := OwnM.k0 o80 D20.stp; have o84 := Own.k0 o81 D20.stp
       have q227 : At (Ty.val x9_1) s28 a32 (.tmp 68) := D20.done 0 (by decide)
       obtain ⟨x5, hx5⟩ : ∃ x, a32.eval (.tmp 69) = x := ⟨_, rfl⟩
       have q228 : At (Ty.val x5) s28 a32 (.tmp 69) := hx5
       have o85 := al2 (R := (Pr.own 24 3 1 0 (List.map Ty.int ([] : List Int)))) hx5 (D20.done 1 (by decide))
       have q229 := D20.dn 5 (by decide) rfl rfl
       have b3 := sl_le q229
       refine tL ok29 (YldM.toL (m_append Try.underlying22 Try.inf3 (by decide) rfl (by decide) (al (R := (Pr.own 24 3 1 0 (List.map Ty.int ([] : List Int)))) q228 o85) q229 (one_map (fun _ => one_val rfl)) (by omega) (by omega))) fun a33 s29 hs9 ok30 r9 sm7 => ?_
       have F32 := (F30.step0 D20.stp).stepL hs9 (by decide); have q230 := kpL hs9 (by decide) (sm7 14 (by decide)) (D20.kt q211 rfl); have q231 := kpL hs9 (by decide) (sm7 12 (by decide)) (D20.kt q212 rfl); have q232 := kpL hs9 (by decide) (sm7 9 (by decide)) (D20.kt q213 rfl); have q233 := kpL hs9 (by decide) (sm7 11 (by decide)) (D20.kt q214 rfl); have q234 := kpL hs9 (by decide) (sm7 1 (by decide)) (D20.kt q215 rfl); have q235 := kpL hs9 (by decide) (sm7 2 (by decide)) (D20.kt q216 rfl); have q236 := kpL hs9 (by decide) (sm7 10 (by decide)) (D20.kt q217 rfl); have q237 := kpL hs9 (by decide) (sm7 8 (by decide)) (D20.kt q218 rfl); have q238 := kpL hs9 (by decide) (sm7 68 (by decide)) q227; have o87 := Own.keepL o82 hs9 (by decide) (by decide); have o88 := OwnM.keepL o83 hs9 (by decide) (by decide); have o89 := Own.keepL o84 hs9 (by decide) (by decide)
       obtain ⟨x6, hx6⟩ : ∃ x, a33.eval (.tmp 74) = x := ⟨_, rfl⟩
       have q239 : At (Ty.val x6) s29 a33 (.tmp 74) := hx6
       have o86 := al2 (R := (Pr.own 24 3 1 (List.length (W2.getD i [])) (List.map Ty.int (W2.getD i [])))) hx6 (cvo (by first | (simp; done) | (simp; omega)) (by first | (rw [List.map_append]; rfl) | simp) r9)
       clear r9
       refine tL ok30 (Yld.toL (y_mv q230)) fun a34 s30 hs10 ok31 r10 sm8 => ?_
       have F33 := F32.stepL hs10 (by decide); have q240 := kpL hs10 (by decide) (sm8 12 (by decide)) q231; have q241 := kpL hs10 (by decide) (sm8 9 (by decide)) q232; have q242 := kpL hs10 (by decide) (sm8 11 (by decide)) q233; have q243 := kpL hs10 (by decide) (sm8 1 (by decide)) q234; have q244 := kpL hs10 (by decide) (sm8 2 (by decide)) q235; have q245 := kpL hs10 (by decide) (sm8 10 (by decide)) q236; have q246 := kpL hs10 (by decide) (sm8 8 (by decide)) q237; have q247 := kpL hs10 (by decide) (sm8 68 (by decide)) q238; have q248 := kpL hs10 (by decide) (sm8 74 (by decide)) q239; have o90 := Own.keepL o87 hs10 (by decide) (by decide); have o91 := OwnM.keepL o88 hs10 (by decide) (by decide); have o92 := Own.keepL o89 hs10 (by decide) (by decide); have o93 := Own.keepL o86 hs10 (by decide) (by decide)
       have q249 : At (Ty.int (ltrN j)) s30 a34 (.tmp 75) := r10
       clear r10
       refine tL (R := (fun v τ => Pr.has (Ty.pr (Ty.sl 1 1 [(Ty.int (ltrN j))])) τ v)) ok31 (Yld.toL (y_build1o Try.underlying22 Try.inf3 rfl (one_val rfl) q249)) fun a35 s31 hs11 ok32 r11 sm9 => ?_
       have F34 := F33.stepL hs11 (by decide); have q250 := kpL hs11 (by decide) (sm9 12 (by decide)) q240; have q251 := kpL hs11 (by decide) (sm9 9 (by decide)) q241; have q252 := kpL hs11 (by decide) (sm9 11 (by decide)) q242; have q253 := kpL hs11 (by decide) (sm9 1 (by decide)) q243; have q254 := kpL hs11 (by decide) (sm9 2 (by decide)) q244; have q255 := kpL hs11 (by decide) (sm9 10 (by decide)) q245; have q256 := kpL hs11 (by decide) (sm9 8 (by decide)) q246; have q257 := kpL hs11 (by decide) (sm9 68 (by decide)) q247; have q258 := kpL hs11 (by decide) (sm9 74 (by decide)) q248; have o94 := Own.keepL o90 hs11 (by decide) (by decide); have o95 := OwnM.keepL o91 hs11 (by decide) (by decide); have o96 := Own.keepL o92 hs11 (by decide) (by decide); have o97 := Own.keepL o93 hs11 (by decide) (by decide)
       have q259 : At (Ty.sl 1 1 [(Ty.int (ltrN j))]) s31 a35 (.tmp 76) := r11
       clear r11
       refine tL ok32 (YldM.toL (m_append Try.underlying22 Try.inf3 (by decide) rfl (by decide) (al (R := (Pr.own 24 3 1 (List.length (W2.getD i [])) (List.map Ty.int (W2.getD i [])))) q258 o97) q259 (by intro U hU; simp at hU; subst hU; exact one_val rfl) (by omega) (by omega))) fun a36 s32 hs12 ok33 r12 sm10 => ?_
       have F35 := F34.stepL hs12 (by decide); have q260 := kpL hs12 (by decide) (sm10 12 (by decide)) q250; have q261 := kpL hs12 (by decide) (sm10 9 (by decide)) q251; have q262 := kpL hs12 (by decide) (sm10 11 (by decide)) q252; have q263 := kpL hs12 (by decide) (sm10 1 (by decide)) q253; have q264 := kpL hs12 (by decide) (sm10 2 (by decide)) q254; have q265 := kpL hs12 (by decide) (sm10 10 (by decide)) q255; have q266 := kpL hs12 (by decide) (sm10 8 (by decide)) q256; have q267 := kpL hs12 (by decide) (sm10 68 (by decide)) q257; have o99 := Own.keepL o94 hs12 (by decide) (by decide); have o100 := OwnM.keepL o95 hs12 (by decide) (by decide); have o101 := Own.keepL o96 hs12 (by decide) (by decide)
       obtain ⟨x7, hx7⟩ : ∃ x, a36.eval (.tmp 77) = x := ⟨_, rfl⟩
       have q268 : At (Ty.val x7) s32 a36 (.tmp 77) := hx7
       have o98 := al2 (R := (Pr.own 24 3 1 (List.length ((W2.getD i []) ++ [(ltrN j)])) (List.map Ty.int ((W2.getD i []) ++ [(ltrN j)])))) hx7 (cvo (by simp) (by first | (rw [List.map_append]; rfl) | simp) r12)
       clear r12
       obtain ⟨t7, e1, h1, q269⟩ := Own.seal o98 (by decide)
       rw [← e1]
       have F36 := F35.step h1 (by decide); have o102 := Own.keepL o99 (h1.toL (L := [24]) (by simp)) (by decide) (by decide); have o103 := OwnM.keepL o100 (h1.toL (L := [24]) (by simp)) (by decide) (by decide); have o104 := Own.keepL o101 (h1.toL (L := [24]) (by simp)) (by decide) (by decide); have q270 := Ty.up (Ty.nat j) (h1.le (by decide)) q260; have q271 := Ty.up (Ty.val x9_1) (h1.le (by decide)) q261; have q272 := Ty.up (Ty.nat i) (h1.le (by decide)) q262; have q273 := Ty.up (Ty.lst Ty.ints gens) (h1.le (by decide)) q263; have q274 := Ty.up (Ty.nat most) (h1.le (by decide)) q264; have q275 := Ty.up (Ty.val x3) (h1.le (by decide)) q265; have q276 := Ty.up (Ty.val x4) (h1.le (by decide)) q266; have q277 := Ty.up (Ty.val x9_1) (h1.le (by decide)) q267
       have q278 : At (Ty.lst Ty.int ((W2.getD i []) ++ [(ltrN j)])) t7 a36 (.tmp 77) := by have e : a36.eval (.tmp 77) = x7 := q268; show Ty.has _ _ _; rw [e]; exact q269
       refine tL (R := (fun v τ => Pr.has (Ty.pr (Ty.sl 1 1 [(Ty.lst Ty.int ((W2.getD i []) ++ [(ltrN j)]))])) τ v)) ok33 (Yld.toL (y_build1o Try.underlying24 Try.inf22 rfl (one_sl) q278)) fun a37 s33 hs13 ok34 r13 sm11 => ?_
       have F37 := F36.stepL hs13 (by decide); have q279 := kpL hs13 (by decide) (sm11 12 (by decide)) q270; have q280 := kpL hs13 (by decide) (sm11 9 (by decide)) q271; have q281 := kpL hs13 (by decide) (sm11 11 (by decide)) q272; have q282 := kpL hs13 (by decide) (sm11 1 (by decide)) q273; have q283 := kpL hs13 (by decide) (sm11 2 (by decide)) q274; have q284 := kpL hs13 (by decide) (sm11 10 (by decide)) q275; have q285 := kpL hs13 (by decide) (sm11 8 (by decide)) q276; have q286 := kpL hs13 (by decide) (sm11 68 (by decide)) q277; have o105 := Own.keepL o102 hs13 (by decide) (by decide); have o106 := OwnM.keepL o103 hs13 (by decide) (by decide); have o107 := Own.keepL o104 hs13 (by decide) (by decide)
       have q287 : At (Ty.sl 1 1 [(Ty.lst Ty.int ((W2.getD i []) ++ [(ltrN j)]))]) s33 a37 (.tmp 78) := r13
       clear r13
       refine tL ok34 (YldM.toL (m_append Try.underlying24 Try.inf22 (by decide) rfl (by decide) (al (R := (Pr.own 21 22 1 (List.length W2) (List.map Ty.ints W2))) q286 o105) q287 (by intro U hU; simp at hU; subst hU; exact one_sl) (by omega) (by omega))) fun a38 s34 hs14 ok35 r14 sm12 => ?_
       have F38 := F37.stepL hs14 (by decide); have q288 := kpL hs14 (by decide) (sm12 12 (by decide)) q279; have q289 := kpL hs14 (by decide) (sm12 9 (by decide)) q280; have q290 := kpL hs14 (by decide) (sm12 11 (by decide)) q281; have q291 := kpL hs14 (by decide) (sm12 1 (by decide)) q282; have q292 := kpL hs14 (by decide) (sm12 2 (by decide)) q283; have q293 := kpL hs14 (by decide) (sm12 10 (by decide)) q284; have q294 := kpL hs14 (by decide) (sm12 8 (by decide)) q285; have o109 := OwnM.keepL o106 hs14 (by decide) (by decide); have o110 := Own.keepL o107 hs14 (by decide) (by decide)
       obtain ⟨x8, hx8⟩ : ∃ x, a38.eval (.tmp 79) = x := ⟨_, rfl⟩
       have q295 : At (Ty.val x8) s34 a38 (.tmp 79) := hx8
       have o108 := al2 (R := (Pr.own 21 22 1 (List.length (W2 ++ [((W2.getD i []) ++ [(ltrN j)])])) (List.map Ty.ints (W2 ++ [((W2.getD i []) ++ [(ltrN j)])])))) hx8 (cvo (by simp) (by first | (rw [List.map_append]; rfl) | simp) r14)
       clear r14
       refine tL ok35 (Yld.toL (y_as q295)) fun a39 s35 hs15 ok36 r15 sm13 => ?_
       have F39 := F38.stepL hs15 (by decide); have q296 := kpL hs15 (by decide) (sm13 12 (by decide)) q288; have q297 := kpL hs15 (by decide) (sm13 11 (by decide)) q290; have q298 := kpL hs15 (by decide) (sm13 1 (by decide)) q291; have q299 := kpL hs15 (by decide) (sm13 2 (by decide)) q292; have q300 := kpL hs15 (by decide) (sm13 10 (by decide)) q293; have q301 := kpL hs15 (by decide) (sm13 8 (by decide)) q294; have o111 := OwnM.keepL o109 hs15 (by decide) (by decide); have o112 := Own.keepL o110 hs15 (by decide) (by decide); have o113 := Own.keepL o108 hs15 (by decide) (by decide)
       have q302 : At (Ty.val x8) s35 a39 (.tmp 9) := r15
       clear r15; refine wpList_nil (tn (wp_seq ?_))
       refine gI a39 s35 ok36 (gM q301 (gT (Ty.nat (List.length (L2 ++ [(byL ((L2.getD i [])) ((ltr gens j)))]))) rfl (fun A B E G H d0 => rP (own_len Try.underlying24 (al (R := (Pr.own 20 22 1 (List.length (L2 ++ [(byL ((L2.getD i [])) ((ltr gens j)))])) (List.map Ty.ints (L2 ++ [(byL ((L2.getD i [])) ((ltr gens j)))])))) (ed d0 rfl rfl rfl) (Own.k0 o112 E)))) (gM q299 (gS rfl (fun A B E G H d0 d1 => rP (y_gtr (ed d0 rfl rfl rfl) (ed d1 rfl rfl rfl))) (gE ok36 fun a40 s36 ok37 D21 => ?_))))); have F40 := F39.step0 D21.stp; have o114 := OwnM.k0 o111 D21.stp; have o115 := Own.k0 o112 D21.stp; have o116 := Own.k0 o113 D21.stp; refine tn ?_
       refine cond_p (p := (((most : Nat) : Int) < (((List.length (L2 ++ [(byL ((L2.getD i [])) ((ltr gens j)))])) : Nat) : Int))) (D21.dn 3 rfl rfl) (fun c5 => ?_) (fun c5 => ?_)
       ·
        refine wp_seq ?_
        refine gI a40 s36 ok37 (gC (Ty.val (Value.slice none 0 0)) (gC (Ty.val (Value.slice none 0 0)) (gE ok37 fun a41 s37 ok38 D22 => ?_))); have o117 := OwnM.k0 o114 D22.stp; have o118 := Own.k0 o115 D22.stp; have o119 := Own.k0 o116 D22.stp; refine tn (wp_ret (br (tr (tr (br (br (tr (tr (br (tr ?_))))))))))
        exact retL2 rfl ok38 (F40.step0 D22.stp) ⟨([] : List (List Int)), ([] : List (List Int)), (hasT2 (nil_lst (by (first | rfl | omega | (simp_all; done) | (simp_all; omega))) (D22.dn 0 rfl rfl)) (nil_lst (by (first | rfl | omega | (simp_all; done) | (simp_all; omega))) (D22.dn 1 rfl rfl))), (by exact ClI.many hC5 (by omega))⟩
       ·
        refine wp_skip (bn (tn ?_))
        refine gI a40 s36 ok37 (gM (D21.kt q296 rfl) (gT (Ty.nat (j + 1)) rfl (fun A B E G H d0 => rP ((y_add (ed d0 rfl rfl rfl) rfl (w64 (by omega) (by omega))).mono (fun τ _ h => cvi (σ := τ) (by first | omega | exact (Int.natCast_mul _ _).symm) h))) (gB 0 (gE ok37 fun a42 s38 ok39 D23 => ?_)))); have o120 := OwnM.k0 o114 D23.stp; have o121 := Own.k0 o115 D23.stp; have o122 := Own.k0 o116 D23.stp
        exact tn ⟨2 * gens.length - ((j+1)), by omega, s38, (j+1), (L2 ++ [(byL (L2.getD i []) (ltr gens j))]), (W2 ++ [(W2.getD i [] ++ [ltrN j])]), (fun p => if p = ((rankL (byL (L2.getD i []) (ltr gens j)) : Nat) : Int) then some true else f2 p), x4, x8, rfl, (F40.step0 D23.stp), ok39, (cvi (by (first | rfl | omega | (simp_all; done) | (simp_all; omega))) (D23.dn 2 rfl rfl)), (D23.kt (D21.kt q301 rfl) rfl), (D23.kt (D21.kt q302 rfl) rfl), (D23.kt (D21.kt q297 rfl) rfl), (D23.kt (D21.kt q298 rfl) rfl), (D23.kt (D21.kt q299 rfl) rfl), (D23.kt (D21.kt q300 rfl) rfl), (cvo (by (simp)) (by (simp)) o121), (cvo (by (simp)) (by (simp)) o122), (cvm (by (rfl)) o120), by omega, by (rw [List.length_append]; omega), by omega, hC5, hsn5, hwb2.new (by omega), rfl⟩
    ·
     have ej : j = 2 * gens.length := (by omega); have hC4 := (ej ▸ hC2 : ClI n gens L2 W2 i (2 * gens.length)).next
     refine wp_exit (tx (tx (bx (bn (tn ?_)))))
     refine gI a16 s13 ok14 (gM q75 (gT (Ty.nat (i + 1)) rfl (fun A B E G H d0 => rP ((y_add (ed d0 rfl rfl rfl) rfl (w64 (by omega) (by omega))).mono (fun τ _ h => cvi (σ := τ) (by first | omega | exact (Int.natCast_mul _ _).symm) h))) (gB 0 (gE ok14 fun a43 s39 ok40 D24 => ?_)))); have o123 := Own.k0 o34 D24.stp; have o124 := Own.k0 o35 D24.stp; have o125 := OwnM.k0 o36 D24.stp
     exact tn ⟨most - ((i + 1)), by omega, s39, (i + 1), L2, W2, f2, x8_1, x9_1, rfl, (F15.step0 D24.stp), ok40, (cvi (by (first | rfl | omega | (simp_all; done) | (simp_all; omega))) (D24.dn 2 rfl rfl)), (D24.kt q73 rfl), (D24.kt q74 rfl), (D24.kt q76 rfl), (D24.kt q77 rfl), (D24.kt q78 rfl), (cvo (by (simp)) (by (simp)) o123), (cvo (by (simp)) (by (simp)) o124), (cvm (by (rfl)) o125), by omega, hl2, hC4, hsn2, hwb2, rfl⟩
  ·
   have ei : i = L.length := (by omega); have hC9 : ClosedP n gens most L W := ClI.closed hn hg (ei ▸ hC) hl
   refine wp_exit (tx (tx (bx (tn (wp_seq ?_)))))
   refine gI a12 s11 ok11 (gM q52 (gM q53 (gB 0 (gB 0 (gE ok11 fun a44 s40 ok41 D25 => ?_))))); have o126 := Own.k0 o25 D25.stp; have o127 := Own.k0 o26 D25.stp; have o128 := OwnM.k0 o27 D25.stp
   have q326 : At (Ty.val x8_0) s40 a44 (.tmp 6) := D25.done 2
   have q327 : At (Ty.val x9_0) s40 a44 (.tmp 7) := D25.done 3
   refine tn (wp_ret ?_)
   obtain ⟨t8, e2, h2, q328⟩ := Own.seal o126 (by decide)
   rw [← e2]
   have F45 := (F12.step0 D25.stp).step h2 (by decide); have o129 := Own.keepL o127 (h2.toL (L := [20]) (by simp)) (by decide) (by decide)
   have q329 : At (Ty.lst Ty.ints L) t8 a44 (.tmp 6) := by have e : a44.eval (.tmp 6) = x8_0 := q326; show Ty.has _ _ _; rw [e]; exact q328
   have q330 := Ty.up (Ty.val x9_0) (h2.le (by decide)) q327
   obtain ⟨t9, e3, h3, q331⟩ := Own.seal o129 (by decide)
   rw [← e3]
   have F46 := F45.step h3 (by decide); have q332 := Ty.up (Ty.lst Ty.ints L) (h3.le (by decide)) q329
   have q333 : At (Ty.lst Ty.ints W) t9 a44 (.tmp 7) := by have e : a44.eval (.tmp 7) = x9_0 := q330; show Ty.has _ _ _; rw [e]; exact q331
   exact retL2 rfl ok41 F46 ⟨L, W, (hasT2 (cvt (by (first | rfl | omega | (simp_all; done) | (simp_all; omega))) q332) q333), (by exact hC9)⟩


set_option maxHeartbeats 4000000 in
set_option maxRecDepth 100000 in
theorem rBelow_fn (a : List Int) (b : List Int) (σ : GW)  (v0 v1 : Value) (hv0 : Ty.has (Ty.lst Ty.int a) σ v0) (hv1 : Ty.has (Ty.lst Ty.int b) σ v1)   :
    FnC Try.prog 67 #[v0, v1] σ (Ty.bool (belowL a b)) := by
 refine fn_intro0 Try.func67 rfl Try.ntmps67 (Nat.le_of_ble_eq_true rfl) (fun s0 a0 hle F0 ok0 hargs => ?_)
 have p0 := pA hle (hargs 0 _ rfl) hv0
 have b1 := sl_le p0
 have p1 := pA hle (hargs 1 _ rfl) hv1
 have b2 := sl_le p1
 clear hargs; refine wp_seq ?_
 refine gI a0 s0 ok0 (gC (Ty.bool false) (gE ok0 fun a1 s1 ok1 D1 => ?_)); refine tn (wp_seq (wp_seq ?_))
 refine gI a1 s1 ok1 (gC (Ty.int (0 : Int)) (gE ok1 fun a2 s2 ok2 D2 => ?_)); refine tn (wp_block ?_)
 refine loop (fun n1 a3 w1 => ∃ (t1 : GW) (i : Nat), t1.w = w1 ∧ FromL [] s0 t1 ∧ Ok 41 [] a3 ∧ At (Ty.nat i) t1 a3 (.tmp 5) ∧ At (Ty.lst Ty.int a) t1 a3 (.tmp 0) ∧ At (Ty.lst Ty.int b) t1 a3 (.tmp 1) ∧ (i ≤ a.length) ∧ (i ≤ b.length) ∧ (belowL (a.drop i) (b.drop i) = belowL a b) ∧ n1 = a.length - i) (a.length - (0)) ?_ ?_
 ·
  exact ⟨s2, 0, rfl, ((F0.step0 D1.stp).step0 D2.stp), ok2, (cvi (by (first | rfl | omega | (simp_all; done) | (simp_all; omega))) (D2.dn 0 rfl rfl)), (D2.kt (D1.kt p0 rfl) rfl), (D2.kt (D1.kt p1 rfl) rfl), by omega, by omega, rfl, rfl⟩
 ·
  rintro n2 a4 w2 ⟨t2, i, rfl, F3, ok3, q6, q7, q8, hi, hi2, hb, rfl⟩
  refine wp_seq (wp_seq ?_)
  refine gI a4 t2 ok3 (gM q6 (gM q7 (gS rfl (fun A B E G H d0 => rP (y_len Try.underlying22 (ed d0 rfl rfl rfl))) (gS rfl (fun A B E G H d0 d1 => rP (y_lss (ed d0 rfl rfl rfl) (ed d1 rfl rfl rfl))) (gS rfl (fun A B E G H d0 => rP (y_move (ed d0 rfl rfl rfl))) (gS rfl (fun A B E G H d0 => gu G (ed d0 rfl rfl rfl) fun hg => y_move (kp (H 5 rfl) E q6)) (gS rfl (fun A B E G H d0 => gu G (ed d0 rfl rfl rfl) fun hg => y_move (kp (H 1 rfl) E q8)) (gS rfl (fun A B E G H d0 d1 => gu G (ed d1 rfl rfl rfl) fun hg => y_len Try.underlying22 ((ed d0 rfl rfl rfl).1 hg)) (gS rfl (fun A B E G H d0 d1 d2 => gu G (ed d2 rfl rfl rfl) fun hg => y_lss ((ed d0 rfl rfl rfl).1 hg) ((ed d1 rfl rfl rfl).1 hg)) (gS rfl (fun A B E G H d0 d1 => rP (y_pick_and (ed d0 rfl rfl rfl) (ed d1 rfl rfl rfl) rfl)) (gE ok3 fun a5 s3 ok4 D3 => ?_))))))))))); have F4 := F3.step0 D3.stp; have q9 := D3.kt q6 rfl; have q10 := D3.kt q7 rfl; have q11 := D3.kt q8 rfl; refine tn ?_
  refine cond_t (D3.dn 9 rfl rfl) (fun c1 => ?_) (fun c1 => ?_)
  ·
   obtain ⟨d1, d2⟩ := Bool.and_eq_true_iff.mp c1
   replace d1 := of_decide_eq_true d1
   replace d2 := of_decide_eq_true d2
   simp only [Bool.and_eq_true, decide_eq_true_eq] at c1
   refine wp_skip (tn (wp_seq (wp_block (wp_seq ?_))))
   refine gI a5 s3 ok4 (gM q10 (gM q9 (gT (Ty.ref [(Ty.int (a.getD i 0))]) rfl (fun A B E G H d0 d1 => rP (y_index1 Try.underlying22 Try.inf3 (ed d0 rfl rfl rfl) (ed d1 rfl rfl rfl) (by omega) (lst_get Ty.int a 0 i (by omega)))) (gS rfl (fun A B E G H d0 => rP (y_load Try.underlying3 rfl (ed d0 rfl rfl rfl) rfl)) (gM q11 (gM q9 (gT (Ty.ref [(Ty.int (b.getD i 0))]) rfl (fun A B E G H d0 d1 => rP (y_index1 Try.underlying22 Try.inf3 (ed d0 rfl rfl rfl) (ed d1 rfl rfl rfl) (by omega) (lst_get Ty.int b 0 i (by omega)))) (gS rfl (fun A B E G H d0 => rP (y_load Try.underlying3 rfl (ed d0 rfl rfl rfl) rfl)) (gS rfl (fun A B E G H d0 d1 => rP (y_neq (ed d0 rfl rfl rfl) (ed d1 rfl rfl rfl))) (gE ok4 fun a6 s4 ok5 D4 => ?_)))))))))); have F5 := F4.step0 D4.stp; have q13 := D4.kt q9 rfl; have q14 := D4.kt q10 rfl; have q15 := D4.kt q11 rfl; refine tn ?_
   refine cond_p (p := ((a.getD i 0) ≠ (b.getD i 0))) (D4.dn 8 rfl rfl) (fun c2 => ?_) (fun c2 => ?_)
   ·
    refine wp_seq ?_
    refine gI a6 s4 ok5 (gM q14 (gM q13 (gT (Ty.ref [(Ty.int (a.getD i 0))]) rfl (fun A B E G H d0 d1 => rP (y_index1 Try.underlying22 Try.inf3 (ed d0 rfl rfl rfl) (ed d1 rfl rfl rfl) (by omega) (lst_get Ty.int a 0 i (by omega)))) (gS rfl (fun A B E G H d0 => rP (y_load Try.underlying3 rfl (ed d0 rfl rfl rfl) rfl)) (gM q15 (gM q13 (gT (Ty.ref [(Ty.int (b.getD i 0))]) rfl (fun A B E G H d0 d1 => rP (y_index1 Try.underlying22 Try.inf3 (ed d0 rfl rfl rfl) (ed d1 rfl rfl rfl) (by omega) (lst_get Ty.int b 0 i (by omega)))) (gS rfl (fun A B E G H d0 => rP (y_load Try.underlying3 rfl (ed d0 rfl rfl rfl) rfl)) (gS rfl (fun A B E G H d0 d1 => rP (y_lss (ed d0 rfl rfl rfl) (ed d1 rfl rfl rfl))) (gB 0 (gE ok5 fun a7 s5 ok6 D5 => ?_))))))))))); refine tn (wp_ret (br (tr (tr (br (tr ?_))))))
    exact retL1 rfl ok6 (F5.step0 D5.stp) (cvb (by (exact below_ne hb (by omega) (by omega) (by assumption))) (D5.dn 9 rfl rfl))
   ·
    refine wp_skip (bn (tn ?_))
    refine gI a6 s4 ok5 (gM q13 (gT (Ty.int (((i : Nat) : Int) + (1 : Int))) rfl (fun A B E G H d0 => rP (y_add (ed d0 rfl rfl rfl) rfl (w64 (by omega) (by omega)))) (gB 0 (gE ok5 fun a8 s6 ok7 D6 => ?_))))
    exact tn ⟨a.length - ((i+1)), by omega, s6, (i+1), rfl, (F5.step0 D6.stp), ok7, (cvi (by (first | rfl | omega | (simp_all; done) | (simp_all; omega))) (D6.dn 2 rfl rfl)), (D6.kt q14 rfl), (D6.kt q15 rfl), by omega, by omega, below_step hb (by omega) (by omega) (by assumption), rfl⟩
  ·
   have hc1 : ¬ (i < a.length ∧ i < b.length) := (by intro h; simp only [Bool.and_eq_false_iff, decide_eq_false_iff_not] at c1; omega)
   refine wp_exit (tx (tx (bx (tn (wp_seq ?_)))))
   refine gI a5 s3 ok4 (gM q10 (gS rfl (fun A B E G H d0 => rP (y_len Try.underlying22 (ed d0 rfl rfl rfl))) (gM q11 (gS rfl (fun A B E G H d0 => rP (y_len Try.underlying22 (ed d0 rfl rfl rfl))) (gS rfl (fun A B E G H d0 d1 => rP (y_lss (ed d0 rfl rfl rfl) (ed d1 rfl rfl rfl))) (gB 0 (gE ok4 fun a9 s7 ok8 D7 => ?_))))))); refine tn (wp_ret ?_)
   exact retL1 rfl ok8 (F4.step0 D7.stp) (cvb (by (exact below_end hb (by omega) (by omega) hc1)) (D7.dn 5 rfl rfl))


end Go.Proofs.Ytkjifbgofckfeaa
