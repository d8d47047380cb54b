/- The functions that the law GroupMade reaches, each by its contract. Part 1. -/
import Derived.Test.YtkjifbgofckfeaaGroupMadeK1
import Derived.Test.YtkjifbgofckfeaaGroupMadeK3
import Derived.Test.YtkjifbgofckfeaaGroupMadeK2
import Derived.Test.YtkjifbgofckfeaaGroupMadeKeysG
import Derived.Test.YtkjifbgofckfeaaGroupMadeLayG
import Derived.Test.YtkjifbgofckfeaaGroupMadeSortLG
import Derived.Test.YtkjifbgofckfeaaGroupMadeRevG
import Derived.Test.YtkjifbgofckfeaaGroupMadeCmpG
import Derived.Test.YtkjifbgofckfeaaProg
namespace Go.Proofs.Ytkjifbgofckfeaa
open Go.KL

set_option maxRecDepth 100000 in
theorem pick_fn (c : Int) (n : Nat) (σ : GW) (v0 v1 : Value) (hv0 : Ty.has (Ty.int c) σ v0) (hv1 : Ty.has (Ty.nat n) σ v1) (hc : -9223372036854775808 ≤ c ∧ c ≤ 9223372036854775807) (hn : 0 < n) :
    FnC Try.prog 15 #[v0, v1] σ (Ty.nat (pick c n)) := by
 refine fn_intro Try.func15 rfl Try.ntmps15 (Nat.le_of_ble_eq_true rfl) (fun s0 a0 hle F0 ok0 hargs => ?_)
 have p0 := pA hle (hargs 0 _ rfl) hv0
 have p1 := pA hle (hargs 1 _ rfl) hv1
 clear hargs; refine wp_seq ?_
 refine gI a0 s0 ok0 (gC (Ty.int (0 : Int)) (gE ok0 fun a1 s1 ok1 D1 => ?_)); have q1 := D1.k p0; refine tn (wp_seq (wp_seq ?_))
 refine gI a1 s1 ok1 (gM q1 (gS rfl (fun A B E G H d0 => rP (y_lss (eI d0) rfl)) (gE ok1 fun a2 s2 ok2 D2 => ?_))); have F2 := (F0.step0 D1.stp).step0 D2.stp; have q3 := D2.k q1; have q4 := D2.k (D1.k p1); refine tn ?_
 refine cond_p (p := (c < (0 : Int))) (D2.m 1 rfl) (fun c1 => ?_) (fun c1 => ?_)
 ·
  refine gI a2 s2 ok2 (gM q3 (gT (Ty.int (c + (1 : Int))) rfl (fun A B E G H d0 => rP (y_add (eI d0) rfl wX)) (gT (Ty.int (-(c + (1 : Int)))) rfl (fun A B E G H d0 => rP (y_neg (eI d0) wX)) (gB 0 (gE ok2 fun a3 s3 ok3 D3 => ?_))))); refine tn (wp_seq ?_)
  refine gI a3 s3 ok3 (gM (D3.m 3 rfl) (gM (D3.k q4) (gT (Ty.nat (((-(c + (1 : Int)))).toNat % n)) rfl (fun A B E G H d0 d1 => rP (y_remN (toN (σ := B) (eI d0) oM) (eI d1) oM)) (gB 0 (gE ok3 fun a4 s4 ok4 D4 => ?_))))); refine tn (wp_ret ?_)
  exact ret1 rfl ok4 ((F2.step0 D3.stp).step0 D4.stp) (cvi (by (unfold pick; rw [if_pos (by assumption)])) (D4.m 3 rfl))
 ·
  refine wp_skip (tn (wp_seq ?_))
  refine gI a2 s2 ok2 (gM q3 (gM q4 (gT (Ty.nat ((c).toNat % n)) rfl (fun A B E G H d0 d1 => rP (y_remN (toN (σ := B) (eI d0) oM) (eI d1) oM)) (gB 0 (gE ok2 fun a5 s5 ok5 D5 => ?_))))); refine tn (wp_ret ?_)
  exact ret1 rfl ok5 (F2.step0 D5.stp) (cvi (by (unfold pick; rw [if_neg (by assumption)])) (D5.m 3 rfl))

theorem Try.inf3 : Info Try.prog 3 (.int .i64 0) 1 8 := by unfold Info; kernel_rfl
set_option maxRecDepth 100000 in
theorem raw_fn (raw : List Int) (k : Nat) (σ : GW) (v0 v1 : Value) (hv0 : Ty.has (Ty.lst Ty.int raw) σ v0) (hv1 : Ty.has (Ty.nat k) σ v1)  :
    FnC Try.prog 40 #[v0, v1] σ (Ty.int (rawAt raw k)) := by
 refine fn_intro Try.func40 rfl Try.ntmps40 (Nat.le_of_ble_eq_true rfl) (fun s0 a0 hle F0 ok0 hargs => ?_)
 have p0 := pA hle (hargs 0 _ rfl) hv0
 have b1 := sl_le p0
 have p1 := pA hle (hargs 1 _ rfl) hv1
 clear hargs; refine wp_seq ?_
 refine gI a0 s0 ok0 (gC (Ty.int (0 : Int)) (gE ok0 fun a1 s1 ok1 D1 => ?_)); have q1 := D1.k p0; refine tn (wp_seq (wp_seq ?_))
 refine gI a1 s1 ok1 (gM q1 (gS rfl (fun A B E G H d0 => rP (y_len Try.underlying22 (eI d0))) (gS rfl (fun A B E G H d0 => rP (y_eql (eI d0) rfl)) (gE ok1 fun a2 s2 ok2 D2 => ?_)))); have F2 := (F0.step0 D1.stp).step0 D2.stp; have q3 := D2.k q1; refine tn ?_
 refine cond_p (p := ((((List.length raw) : Nat) : Int) = (0 : Int))) (D2.m 2 rfl) (fun c1 => ?_) (fun c1 => ?_)
 ·
  refine wp_seq ?_
  refine gI a2 s2 ok2 (gC (Ty.int (0 : Int)) (gE ok2 fun a3 s3 ok3 D3 => ?_)); refine tn (wp_ret (tr ?_))
  exact ret1 rfl ok3 (F2.step0 D3.stp) (cvi (by (unfold rawAt; rw [if_pos oM])) (D3.m 0 rfl))
 ·
  have hml := Nat.mod_lt k (show 0 < raw.length by omega)
  refine wp_skip (tn (wp_seq ?_))
  refine gI a2 s2 ok2 (gM q3 (gM (D2.k (D1.k p1)) (gM q3 (gS rfl (fun A B E G H d0 => rP (y_len Try.underlying22 (eI d0))) (gT (Ty.nat (k % (List.length raw))) rfl (fun A B E G H d0 d1 => rP (y_remN (eI d0) (eI d1) oM)) (gT (Ty.ref [(Ty.int (raw.getD (k % (List.length raw)) 0))]) rfl (fun A B E G H d0 d1 => rP (y_index1 Try.underlying22 Try.inf3 (eI d0) (eI d1) oM (lst_get Ty.int raw 0 (k % (List.length raw)) oM))) (gS rfl (fun A B E G H d0 => rP (y_load Try.underlying3 rfl (eI d0) rfl)) (gB 0 (gE ok2 fun a4 s4 ok4 D4 => ?_))))))))); refine tn (wp_ret ?_)
  exact ret1 rfl ok4 (F2.step0 D4.stp) (cvi (by (unfold rawAt; rw [if_neg oM])) (D4.m 7 rfl))


set_option maxHeartbeats 4000000 in
set_option maxRecDepth 100000 in
theorem rFact_fn : ∀ (m : Nat) (n : Nat) (σ : GW)  (v0 : Value) (hv0 : Ty.has (Ty.nat n) σ v0)  (hm : m = n) (hn : n ≤ 12), FnC Try.prog 58 #[v0] σ (Ty.nat (fct n)) := by
 intro m
 induction m using Nat.strongRecOn with
 | _ m ih =>
 intro n σ v0 hv0 hm hn
 refine fn_intro0 Try.func58 rfl Try.ntmps58 (Nat.le_of_ble_eq_true rfl) (fun s0 a0 hle F0 ok0 hargs => ?_)
 have p0 := pA hle (hargs 0 _ rfl) hv0
 clear hargs; refine wp_seq ?_
 refine gI a0 s0 ok0 (gC (Ty.int (0 : Int)) (gE ok0 fun a1 s1 ok1 D1 => ?_)); have q1 := D1.k p0; refine tn (wp_seq (wp_seq ?_))
 refine gI a1 s1 ok1 (gM q1 (gS rfl (fun A B E G H d0 => rP (y_lss (eI d0) rfl)) (gE ok1 fun a2 s2 ok2 D2 => ?_))); have F2 := (F0.step0 D1.stp).step0 D2.stp; have q2 := D2.k q1; refine tn ?_
 refine cond_p (p := (((n : Nat) : Int) < (2 : Int))) (D2.m 1 rfl) (fun c1 => ?_) (fun c1 => ?_)
 ·
  refine wp_seq ?_
  refine gI a2 s2 ok2 (gC (Ty.int (1 : Int)) (gE ok2 fun a3 s3 ok3 D3 => ?_)); refine tn (wp_ret (tr ?_))
  exact retL1 rfl ok3 (F2.step0 D3.stp) (cvi (by (rw [fct_small oM]; rfl)) (D3.m 0 rfl))
 ·
  have hm2 : ((n : Nat) : Int) * ((fct (n - 1) : Nat) : Int) ≤ 479001600 ∧ 0 ≤ ((n : Nat) : Int) * ((fct (n - 1) : Nat) : Int) := (by have h1 := fct_le12 hn; have h2 := fct_rec (n := n) oM; rw [← Int.natCast_mul]; omega)
  refine wp_skip (tn (wp_seq ?_))
  refine gI a2 s2 ok2 (gM q2 (gM q2 (gT (Ty.nat (n - 1)) rfl (fun A B E G H d0 => rP ((y_sub (eI d0) rfl wX).mono (fun τ _ h => cvi (σ := τ) oM h))) (gS rfl (fun A B E G H d0 => rP (y_call _ Try.func58 rfl rfl my1 (ih (((n - 1))) oM ((n - 1)) _ _ (cvi (σ := B) oM (ef d0 rfl)) oM oM))) (gT (Ty.nat (n * (fct ((n - 1))))) rfl (fun A B E G H d0 d1 => rP ((y_mul (eI d0) (eI d1) wX).mono (fun τ _ h => cN (σ := τ) h))) (gB 0 (gE ok2 fun a4 s4 ok4 D4 => ?_))))))); refine tn (wp_ret ?_)
  exact retL1 rfl ok4 (F2.step0 D4.stp) (cvi (by (rw [fct_rec oM])) (D4.m 5 rfl))


set_option maxRecDepth 100000 in
theorem rRounds_fn (n : Nat) (σ : GW) (v0 : Value) (hv0 : Ty.has (Ty.nat n) σ v0) (hn : n ≤ 1000000) :
    FnC Try.prog 39 #[v0] σ (Ty.lst Ty.int (roundsL n)) := by
 refine fn_intro Try.func39 rfl Try.ntmps39 (Nat.le_of_ble_eq_true rfl) (fun s0 a0 hle F0 ok0 hargs => ?_)
 have p0 := pA hle (hargs 0 _ rfl) hv0
 clear hargs; refine wp_seq ?_
 refine gI a0 s0 ok0 (gC (Ty.val (Value.slice none 0 0)) (gE ok0 fun a1 s1 ok1 D1 => ?_)); refine tn (wp_seq ?_)
 refine gI a1 s1 ok1 (gC (Ty.val (Value.slice none 0 0)) (gE ok1 fun a2 s2 ok2 D2 => ?_)); refine tn (wp_seq (wp_seq ?_))
 refine gI a2 s2 ok2 (gC (Ty.int (0 : Int)) (gE ok2 fun a3 s3 ok3 D3 => ?_)); refine tn (wp_block ?_)
 refine loop (fun n1 a4 w1 => ∃ (t1 : GW) (k : Nat), t1.w = w1 ∧ From s0 t1 ∧ Ok 15 [] a4 ∧ (Pr.own 2 3 1 (List.length (roundsL k)) (List.map Ty.int (roundsL k))).has t1 (a4.eval (.tmp 3)) ∧ At (Ty.nat k) t1 a4 (.tmp 4) ∧ At (Ty.nat n) t1 a4 (.tmp 0) ∧ (k ≤ n) ∧ n1 = n - k) (n - (0)) ?_ ?_
 ·
  exact ⟨s3, 0, rfl, (((F0.step0 D1.stp).step0 D2.stp).step0 D3.stp), ok3, (by have e : a3.eval (.tmp 3) = _ := (D3.k (D2.m 0 rfl)); rw [e]; exact Own.nil _ _ _ _), (cJ (D3.m 0 rfl)), (D3.k (D2.k (D1.k p0))), by omega, rfl⟩
 ·
  rintro n2 a5 w2 ⟨t2, k, rfl, F4, ok4, q7, q8, q9, hk, rfl⟩
  have hp := roundsL_len k
  refine wp_seq (wp_seq ?_)
  refine gI a5 t2 ok4 (gM q8 (gM q9 (gS rfl (fun A B E G H d0 d1 => rP (y_lss (eI d0) (eI d1))) (gE ok4 fun a6 s4 ok5 D4 => ?_)))); have F5 := F4.step0 D4.stp
  have q10 : (Pr.own 2 3 1 (List.length (roundsL k)) (List.map Ty.int (roundsL k))).has s4 (a6.eval (.tmp 3)) := D4.ko q7 rfl
  have q11 := D4.k q8; refine tn ?_
  refine cond_p (p := (((k : Nat) : Int) < ((n : Nat) : Int))) (D4.m 2 rfl) (fun c1 => ?_) (fun c1 => ?_)
  ·
   refine wp_skip (tn (wp_seq (wp_block ?_)))
   refine gI a6 s4 ok5 (gT (Ty.val (a6.eval (.tmp 3))) rfl (fun A B E G H => rP (y_move (H 3 rfl))) (gM q11 (gT (Ty.sl 1 1 [(Ty.nat k)]) rfl (fun A B E G H d0 => rP (y_build1o Try.underlying22 Try.inf3 rfl (one_val rfl) (eI d0))) (gE2 ok5 fun a7 s5 ok6 D5 => ?_)))); have q14 := (Pr.own 2 3 1 (List.length (roundsL k)) (List.map Ty.int (roundsL k))).up D5.stp q10
   have q15 : a7.eval (.tmp 3) = a6.eval (.tmp 3) := D5.same 3 rfl
   have q19 := D5.m 2 rfl
   refine tail_step (m := 2) (R := (fun v τ => Own τ 2 3 1 v ((List.length (roundsL k)) + 1) ((List.map Ty.int (roundsL k)) ++ [(Ty.nat k)]))) rfl rfl dE ok6 (m_append Try.underlying22 Try.inf3 dE rfl dE (al (D5.m 0 rfl) q14) q19 (by intro U hU; simp at hU;  subst hU; exact one_val rfl) oM oM) (fun a8 s6 hs1 ok7 r1 sm1 => ?_)
   have F7 := (F5.step0 D5.stp).step hs1 dE
   have q20 : At (Ty.nat k) s6 a8 (.tmp 4) := kpm hs1 dE (sm1 4 dE) (D5.k q11)
   have q21 : At (Ty.nat n) s6 a8 (.tmp 0) := kpm hs1 dE (sm1 0 dE) (D5.k (D4.k q9))
   have q22 : At (Ty.sl 1 1 [(Ty.nat k)]) s6 a8 (.tmp 12) := kpm hs1 dE (sm1 12 dE) q19
   have q23 : (Pr.own 2 3 1 (List.length ((roundsL k) ++ [((k : Nat) : Int)])) (List.map Ty.int ((roundsL k) ++ [((k : Nat) : Int)]))).has s6 (a8.eval (.tmp 13)) := (cvo (by simp) (by first | (rw [List.map_append]; rfl) | simp) r1)
   refine tail_step (m := 0) (R := (fun v τ => Pr.has (Pr.own 2 3 1 (List.length ((roundsL k) ++ [((k : Nat) : Int)])) (List.map Ty.int ((roundsL k) ++ [((k : Nat) : Int)]))) τ v)) rfl rfl dE ok7 (Yld.toM (y_assign q23)) (fun a9 s7 hs2 ok8 r2 sm2 => ?_)
   have F8 := F7.step hs2 dE
   have q24 : At (Ty.nat k) s7 a9 (.tmp 4) := kpm hs2 dE (sm2 4 dE) q20
   have q25 : At (Ty.nat n) s7 a9 (.tmp 0) := kpm hs2 dE (sm2 0 dE) q21
   have q26 : At (Ty.sl 1 1 [(Ty.nat k)]) s7 a9 (.tmp 12) := kpm hs2 dE (sm2 12 dE) q22
   have q27 : (Pr.own 2 3 1 (List.length ((roundsL k) ++ [((k : Nat) : Int)])) (List.map Ty.int ((roundsL k) ++ [((k : Nat) : Int)]))).has s7 (a9.eval (.tmp 13)) := kpmo hs2 dE (.inl rfl) (sm2 13 dE) q23
   have q28 : (Pr.own 2 3 1 (List.length ((roundsL k) ++ [((k : Nat) : Int)])) (List.map Ty.int ((roundsL k) ++ [((k : Nat) : Int)]))).has s7 (a9.eval (.tmp 3)) := r2
   refine wpList_nil (bn (tn ?_))
   refine gI a9 s7 ok8 (gM q24 (gT (Ty.int (((k : Nat) : Int) + (1 : Int))) rfl (fun A B E G H d0 => rP (y_add (eI d0) rfl wX)) (gB 0 (gE ok8 fun a10 s8 ok9 D6 => ?_))))
   have q30 : (Pr.own 2 3 1 (List.length ((roundsL k) ++ [((k : Nat) : Int)])) (List.map Ty.int ((roundsL k) ++ [((k : Nat) : Int)]))).has s8 (a10.eval (.tmp 3)) := D6.ko q28 rfl
   exact tn ⟨n - ((k+1)), by omega, s8, (k+1), rfl, (F8.step0 D6.stp), ok9, (cvo (by (rw [roundsL_succ k])) (by (rw [roundsL_succ k])) q30), (cJ (D6.m 2 rfl)), (D6.k q25), by omega, rfl⟩
  ·
   refine wp_exit (tx (tx (bx (tn (wp_seq ?_)))))
   refine gI a6 s4 ok5 (gT (Ty.val (a6.eval (.tmp 3))) rfl (fun A B E G H => rP (y_move (H 3 rfl))) (gB 0 (gE ok5 fun a11 s9 ok10 D7 => ?_)))
   have q32 : (Pr.own 2 3 1 (List.length (roundsL k)) (List.map Ty.int (roundsL k))).has s9 (a11.eval (.tmp 2)) := al (show _ = _ from D7.done 1) ((Pr.own 2 3 1 (List.length (roundsL k)) (List.map Ty.int (roundsL k))).up D7.stp q10)
   refine tn (wp_ret ?_)
   obtain ⟨t3, e1, h1, q33⟩ := Own.seal q32 dE
   rw [← e1]
   have F11 := (F5.step0 D7.stp).step h1 dE
   exact ret1 rfl ok10 F11 (cvt (by (obtain rfl : k = n := oM; rfl)) q33)


set_option maxHeartbeats 4000000 in
set_option maxRecDepth 100000 in
theorem rAt_fn (n : Nat) (k : Nat) (σ : GW)  (v0 v1 : Value) (hv0 : Ty.has (Ty.nat n) σ v0) (hv1 : Ty.has (Ty.nat k) σ v1)  (hn : n ≤ 12) (hk : k < fct n) :
    FnC Try.prog 70 #[v0, v1] σ (Ty.lst Ty.int (atL n k)) := by
 refine fn_intro0 Try.func70 rfl Try.ntmps70 (Nat.le_of_ble_eq_true rfl) (fun s0 a0 hle F0 ok0 hargs => ?_)
 have p0 := pA hle (hargs 0 _ rfl) hv0
 have p1 := pA hle (hargs 1 _ rfl) hv1
 clear hargs; refine wp_seq ?_
 refine gI a0 s0 ok0 (gC (Ty.val (Value.slice none 0 0)) (gE ok0 fun a1 s1 ok1 D1 => ?_)); refine tn (wp_seq ?_)
 refine gI a1 s1 ok1 (gC (Ty.val (Value.slice none 0 0)) (gE ok1 fun a2 s2 ok2 D2 => ?_)); refine tn (wp_seq ?_)
 refine gI a2 s2 ok2 (gM (D2.k (D1.k p0)) (gS rfl (fun A B E G H d0 => rP (y_call _ Try.func39 rfl rfl my1 (rRounds_fn (n) _ _ (eI d0) oM))) (gB 0 (gE ok2 fun a3 s3 ok3 D3 => ?_)))); refine tn (wp_seq (wp_block ?_))
 have o1 : Own s3 5 3 1 (Value.slice none 0 0) 0 (List.map Ty.int ([] : List Int)) := Own.nil _ _ _ _
 refine loop (fun n1 a4 w1 => ∃ (t1 : GW) (m : Nat) (lf : List Int) (q : Nat) (os : List Int) (x5_0 : Value), t1.w = w1 ∧ FromL [] s0 t1 ∧ Ok 42 [] a4 ∧ At (Ty.lst Ty.int lf) t1 a4 (.tmp 6) ∧ At (Ty.val x5_0) t1 a4 (.tmp 5) ∧ At (Ty.nat q) t1 a4 (.tmp 1) ∧ Own t1 5 3 1 x5_0 (List.length os) (List.map Ty.int os) ∧ (os ++ atF m lf q = atL n k) ∧ (q < fct m) ∧ (lf.length = m) ∧ (os.length + m = n) ∧ n1 = m + 1) ((n) + 1) ?_ ?_
 ·
  exact ⟨s3, n, (roundsL n), k, ([] : List Int), (Value.slice none 0 0), rfl, (((F0.step0 D1.stp).step0 D2.stp).step0 D3.stp), ok3, (cvt (by (first | rfl | omega | (simp_all; done) | (simp_all; omega))) (D3.m 2 rfl)), (D3.k (D2.m 0 rfl)), (cJ (D3.k (D2.k (D1.k p1)))), (cvo (by (simp)) (by (simp)) o1), rfl, by omega, roundsL_len _, by simp, rfl⟩
 ·
  rintro n2 a5 w2 ⟨t2, m, lf, q, os, x5_0, rfl, F4, ok4, q9, q10, q11, o2, hos, hq, hlf, hol, rfl⟩
  have hf12 := fct_le12 (n := m) oM
  have hfp := fct_pos (m - 1)
  refine wp_seq (wp_seq ?_)
  refine gI a5 t2 ok4 (gM q9 (gS rfl (fun A B E G H d0 => rP (y_len Try.underlying22 (eI d0))) (gS rfl (fun A B E G H d0 => rP (y_gtr (eI d0) rfl)) (gE ok4 fun a6 s4 ok5 D4 => ?_)))); have F5 := F4.step0 D4.stp; have q12 := D4.k q9; have q13 := D4.k q10; have o3 := Own.k0 o2 D4.stp; refine tn ?_
  refine cond_p (p := ((0 : Int) < (((List.length lf) : Nat) : Int))) (D4.m 2 rfl) (fun c1 => ?_) (fun c1 => ?_)
  ·
   have hdv := at_div (m := m) (q := q) oM hq; have hdn : (0 : Int) ≤ ((q / fct (m - 1) : Nat) : Int) := Int.natCast_nonneg _; have hmn : (0 : Int) ≤ ((q % fct (m - 1) : Nat) : Int) := Int.natCast_nonneg _; have htk1 : (List.take (q / fct (m - 1)) lf).length ≤ 12 := (by rw [List.length_take]; omega); have hdk1 : (List.drop (q / fct (m - 1) + 1) lf).length ≤ 12 := (by rw [List.length_drop]; omega)
   refine wp_skip (tn (wp_block (wp_seq ?_)))
   refine gI a6 s4 ok5 (gM q12 (gS rfl (fun A B E G H d0 => rP (y_len Try.underlying22 (eI d0))) (gT (Ty.nat ((List.length lf) - 1)) rfl (fun A B E G H d0 => rP ((y_sub (eI d0) rfl wX).mono (fun τ _ h => cvi (σ := τ) oM h))) (gS rfl (fun A B E G H d0 => rP (y_call _ Try.func58 rfl rfl my1 (rFact_fn ((((List.length lf) - 1))) (((List.length lf) - 1)) _ _ (cvi (σ := B) oM (ef d0 rfl)) oM oM))) (gB 0 (gE ok5 fun a7 s5 ok6 D5 => ?_)))))); have q18 := D5.k (D4.k q11); have o4 := Own.k0 o3 D5.stp
   have q20 : At (Ty.nat (fct (m - 1))) s5 a7 (.tmp 7) := (cvi (by (first | rw [hlf] | (have e : ((((List.length lf : Nat) : Int) - (1 : Int))).toNat = m - 1 := oM; rw [e]))) (D5.m 4 rfl))
   refine tn (wp_seq ?_)
   refine gI a7 s5 ok6 (gM q18 (gM q20 (gT (Ty.nat (q / (fct (m - 1)))) rfl (fun A B E G H d0 d1 => rP (y_quoN (eI d0) (eI d1) oM oM)) (gB 0 (gE ok6 fun a8 s6 ok7 D6 => ?_))))); have o5 := Own.k0 o4 D6.stp; refine tn (wp_seq ?_)
   refine gI a8 s6 ok7 (gM (D6.k q18) (gM (D6.k q20) (gT (Ty.nat (q % (fct (m - 1)))) rfl (fun A B E G H d0 d1 => rP (y_remN (eI d0) (eI d1) oM)) (gB 0 (gE ok7 fun a9 s7 ok8 D7 => ?_))))); have q26 := D7.k (D6.k (D5.k q12)); have q27 := D7.k (D6.k (D5.k q13)); have q28 := D7.k (D6.m 3 rfl); have o6 := Own.k0 o5 D7.stp; refine tn (wp_seq ?_)
   refine gI a9 s7 ok8 (gM q27 (gM q26 (gM q28 (gT (Ty.ref [(Ty.int (lf.getD (q / (fct (m - 1))) 0))]) rfl (fun A B E G H d0 d1 => rP (y_index1 Try.underlying22 Try.inf3 (eI d0) (eI d1) oM (lst_get Ty.int lf 0 (q / (fct (m - 1))) oM))) (gS rfl (fun A B E G H d0 => rP (y_load Try.underlying3 rfl (eI d0) rfl)) (gT (Ty.sl 1 1 [(Ty.int (lf.getD (q / (fct (m - 1))) 0))]) rfl (fun A B E G H d0 => rP (y_build1o Try.underlying22 Try.inf3 rfl (one_val rfl) (eI d0))) (gE2 ok8 fun a10 s8 ok9 D8 => ?_))))))); have o7 := Own.k0 o6 D8.stp
   have q34 : At (Ty.val x5_0) s8 a10 (.tmp 24) := D8.done 0 dE
   have q35 := D8.m 5 rfl
   have b1 := sl_le q35
   refine tL ok9 (YldM.toL (m_append Try.underlying22 Try.inf3 dE rfl dE (al (R := (Pr.own 5 3 1 (List.length os) (List.map Ty.int os))) q34 o7) q35 (by intro U hU; simp at hU; subst hU; exact one_val rfl) oM oM)) fun a11 s9 hs1 ok10 r1 sm1 => ?_
   have q37 := kq hs1 sm1 5 (D8.k q27)
   obtain ⟨x1, hx1⟩ : ∃ x, a11.eval (.tmp 30) = x := ⟨_, rfl⟩
   have q40 : At (Ty.val x1) s9 a11 (.tmp 30) := hx1
   have o8 := al2 (R := (Pr.own 5 3 1 (List.length (os ++ [(lf.getD (q / (fct (m - 1))) 0)])) (List.map Ty.int (os ++ [(lf.getD (q / (fct (m - 1))) 0)])))) hx1 (cvo (by simp) (by first | (rw [List.map_append]; rfl) | simp) r1)
   clear r1
   refine tL ok10 (Yld.toL (y_as q40)) fun a12 s10 hs2 ok11 r2 sm2 => ?_
   have q41 := kq hs2 sm2 6 (kq hs1 sm1 6 (D8.k q26)); have q42 := kq hs2 sm2 8 (kq hs1 sm1 8 (D8.k q28))
   have q44 : At (Ty.val x1) s10 a12 (.tmp 5) := r2
   clear r2; refine wpList_nil (tn ?_)
   refine gI a12 s10 ok11 (gR (Pr.own0 7 3) rfl (by intro A B E G H; exact rP (y_lit00 (k := 7) Try.underlying22 Try.inf3)) (gM q41 (gM q42 (gT (Ty.lst Ty.int (lf.take (q / (fct (m - 1))))) rfl (fun A B E G H d0 d1 => rP (y_take Try.underlying22 Try.inf3 (eI d0) (eI d1) oM)) (gR (Pr.own 7 3 1 (List.length (lf.take (q / (fct (m - 1))))) (List.map Ty.int (lf.take (q / (fct (m - 1)))))) rfl (by intro A B E G H d0 d1; have e0 : (Pr.own0 7 3).has B (A.eval (.tmp 31)) := d0 rfl; exact rP (y_append0 Try.underlying22 Try.inf3 dE rfl e0 (eI d1) (one_map (fun _ => one_val rfl)) oM oM)) (gM q41 (gM q42 (gT (Ty.nat ((q / (fct (m - 1))) + 1)) rfl (fun A B E G H d0 => rP ((y_add (eI d0) rfl wX).mono (fun τ _ h => cN (σ := τ) h))) (gT (Ty.lst Ty.int (lf.drop ((q / (fct (m - 1))) + 1))) rfl (fun A B E G H d0 d1 => rP (y_drop Try.underlying22 Try.inf3 (eI d0) (eI d1) oM)) (gE2 ok11 fun a13 s11 ok12 D9 => ?_)))))))))); have o10 := Own.k0 (Own.kl o8 hs2) D9.stp
   obtain ⟨x2, hx2⟩ : ∃ x, a13.eval (.tmp 35) = x := ⟨_, rfl⟩
   have q48 : At (Ty.val x2) s11 a13 (.tmp 35) := hx2
   have o11 := al2 (R := (Pr.own 7 3 1 (List.length (lf.take (q / (fct (m - 1))))) (List.map Ty.int (lf.take (q / (fct (m - 1))))))) hx2 (D9.done 4 dE)
   have q49 := D9.m 8 rfl
   have b2 := sl_le q49
   refine tL ok12 (YldM.toL (m_append Try.underlying22 Try.inf3 dE rfl dE (al (R := (Pr.own 7 3 1 (List.length (lf.take (q / (fct (m - 1))))) (List.map Ty.int (lf.take (q / (fct (m - 1))))))) q48 o11) q49 (one_map (fun _ => one_val rfl)) oM oM)) fun a14 s12 hs3 ok13 r3 sm3 => ?_
   have q50 := kq hs3 sm3 6 (D9.k q41)
   obtain ⟨x3, hx3⟩ : ∃ x, a14.eval (.tmp 40) = x := ⟨_, rfl⟩
   have q53 : At (Ty.val x3) s12 a14 (.tmp 40) := hx3
   have o12 := al2 (R := (Pr.own 7 3 1 (List.length ((lf.take (q / (fct (m - 1)))) ++ (lf.drop ((q / (fct (m - 1))) + 1)))) (List.map Ty.int ((lf.take (q / (fct (m - 1)))) ++ (lf.drop ((q / (fct (m - 1))) + 1)))))) hx3 (cvo (by simp) (by first | (rw [List.map_append]; rfl) | simp) r3)
   clear r3
   refine tL ok13 (Yld.toL (y_as q53)) fun a15 s13 hs4 ok14 r4 sm4 => ?_
   have q56 : At (Ty.val x3) s13 a15 (.tmp 6) := r4
   clear r4; refine wpList_nil (bn ?_)
   obtain ⟨t3, e1, h1, q57⟩ := Own.seal (Own.kl o12 hs4) dE
   rw [← e1]
   have F15 := (((((((((F5.step0 D5.stp).step0 D6.stp).step0 D7.stp).step0 D8.stp).sl hs1).sl hs2).step0 D9.stp).sl hs3).sl hs4).step h1 dE; have o16 := Own.keepL (Own.kl (Own.kl o10 hs3) hs4) (h1.toL (L := [7]) (by simp)) dE dE; have q58 := Ty.up (Ty.nat (q % (fct (m - 1)))) (h1.le dE) (kq hs4 sm4 1 (kq hs3 sm3 1 (D9.k (kq hs2 sm2 1 (kq hs1 sm1 1 (D8.k (D7.m 3 rfl))))))); have q59 := Ty.up (Ty.val x1) (h1.le dE) (kq hs4 sm4 5 (kq hs3 sm3 5 (D9.k q44)))
   have q60 : At (Ty.lst Ty.int ((lf.take (q / (fct (m - 1)))) ++ (lf.drop ((q / (fct (m - 1))) + 1)))) t3 a15 (.tmp 6) := by have e : a15.eval (.tmp 6) = x3 := q56; show Ty.has _ _ _; rw [e]; exact q57
   exact tn ⟨((m - 1)) + 1, by omega, t3, (m - 1), (lf.eraseIdx (q / (fct (m - 1)))), (q % (fct (m - 1))), (os ++ [lf.getD (q / (fct (m - 1))) 0]), x1, rfl, F15, ok14, (cvt (by (rw [erase_eq])) q60), q59, (cJ q58), (cvo (by (simp)) (by (simp)) o16), at_step hos oM, hdv.2, by rw [List.length_eraseIdx, if_pos oM]; omega, by rw [List.length_append, List.length_singleton]; omega, rfl⟩
  ·
   refine wp_exit (tx (tx (bx (tn (wp_seq ?_)))))
   refine gI a6 s4 ok5 (gM q13 (gB 0 (gE ok5 fun a16 s14 ok15 D10 => ?_))); have o17 := Own.k0 o3 D10.stp
   have q61 : At (Ty.val x5_0) s14 a16 (.tmp 4) := D10.done 1
   refine tn (wp_ret ?_)
   obtain ⟨t4, e2, h2, q62⟩ := Own.seal o17 dE
   rw [← e2]
   have F17 := (F5.step0 D10.stp).step h2 dE
   have q63 : At (Ty.lst Ty.int os) t4 a16 (.tmp 4) := by have e : a16.eval (.tmp 4) = x5_0 := q61; show Ty.has _ _ _; rw [e]; exact q62
   exact retL1 rfl ok15 F17 (cvt (by (rw [← hos, show m = 0 by omega, atF, List.append_nil])) q63)


set_option maxHeartbeats 4000000 in
set_option maxRecDepth 100000 in
theorem rRowOf_fn (c : Int) (n : Nat) (σ : GW)  (v0 v1 : Value) (hv0 : Ty.has (Ty.int c) σ v0) (hv1 : Ty.has (Ty.nat n) σ v1)  (hc : -9223372036854775808 ≤ c ∧ c ≤ 9223372036854775807) (hn : 1 ≤ n ∧ n ≤ 12) :
    FnC Try.prog 31 #[v0, v1] σ (Ty.lst Ty.int (atL n (pick c (fct n)))) := by
 have hfp := fct_pos n
 have hpl := pick_lt c (n := fct n) hfp
 refine fn_intro0 Try.func31 rfl Try.ntmps31 (Nat.le_of_ble_eq_true rfl) (fun s0 a0 hle F0 ok0 hargs => ?_)
 have p0 := pA hle (hargs 0 _ rfl) hv0
 have p1 := pA hle (hargs 1 _ rfl) hv1
 clear hargs; refine wp_seq ?_
 refine gI a0 s0 ok0 (gC (Ty.val (Value.slice none 0 0)) (gE ok0 fun a1 s1 ok1 D1 => ?_)); have q2 := D1.k p1; refine tn (wp_seq ?_)
 refine gI a1 s1 ok1 (gM q2 (gM (D1.k p0) (gM q2 (gS rfl (fun A B E G H d0 => rP (y_call _ Try.func58 rfl rfl my1 (rFact_fn (n) (n) _ _ (eI d0) oM oM))) (gS rfl (fun A B E G H d0 d1 d2 => rP (y_call _ Try.func15 rfl rfl my2 (pick_fn (c) ((fct n)) _ _ _ (eI d0) (cvi (σ := B) oM (ef d1 rfl)) oM oM))) (gS rfl (fun A B E G H d0 d1 d2 => rP (y_call _ Try.func70 rfl rfl my2 (rAt_fn (n) ((pick c ((fct n)))) _ _ _ (eI d0) (cvi (σ := B) oX (ef d1 rfl)) oX oX))) (gB 0 (gE ok1 fun a2 s2 ok2 D2 => ?_)))))))); refine tn (wp_ret ?_)
 exact retL1 rfl ok2 ((F0.step0 D1.stp).step0 D2.stp) (cvt (by (first | rfl | omega | (simp_all; done) | (simp_all; omega))) (D2.m 6 rfl))

theorem Try.inf22 : Info Try.prog 22 (.slice none 0 0) 1 24 := by unfold Info; kernel_rfl
set_option maxHeartbeats 4000000 in
set_option maxRecDepth 100000 in
theorem rRowsOf_fn (raw : List Int) (b : Nat) (n : Nat) (many : Nat) (σ : GW)  (v0 v1 v2 v3 : Value) (hv0 : Ty.has (Ty.lst Ty.int raw) σ v0) (hv1 : Ty.has (Ty.nat b) σ v1) (hv2 : Ty.has (Ty.nat n) σ v2) (hv3 : Ty.has (Ty.nat many) σ v3)  (hn : 1 ≤ n ∧ n ≤ 12) (hb : b ≤ 1000) (hm : many ≤ 1000) :
    FnC Try.prog 16 #[v0, v1, v2, v3] σ (Ty.lst Ty.ints (rowsOf raw b n many)) := by
 have hr := wr64_bd
 refine fn_intro0 Try.func16 rfl Try.ntmps16 (Nat.le_of_ble_eq_true rfl) (fun s0 a0 hle F0 ok0 hargs => ?_)
 have p0 := pA hle (hargs 0 _ rfl) hv0
 have b1 := sl_le p0
 have p1 := pA hle (hargs 1 _ rfl) hv1
 have p2 := pA hle (hargs 2 _ rfl) hv2
 have p3 := pA hle (hargs 3 _ rfl) hv3
 clear hargs; refine wp_seq ?_
 refine gI a0 s0 ok0 (gC (Ty.val (Value.slice none 0 0)) (gE ok0 fun a1 s1 ok1 D1 => ?_)); refine tn (wp_seq ?_)
 refine gI a1 s1 ok1 (gC (Ty.val (Value.slice none 0 0)) (gE ok1 fun a2 s2 ok2 D2 => ?_)); refine tn (wp_seq (wp_seq ?_))
 refine gI a2 s2 ok2 (gC (Ty.int (0 : Int)) (gE ok2 fun a3 s3 ok3 D3 => ?_)); refine tn (wp_block ?_)
 have o1 : Own s3 5 22 1 (Value.slice none 0 0) 0 (List.map Ty.ints ([] : List (List Int))) := Own.nil _ _ _ _
 refine loop (fun n1 a4 w1 => ∃ (t1 : GW) (i : Nat) (x9_0 : Value), t1.w = w1 ∧ FromL [] s0 t1 ∧ Ok 37 [] a4 ∧ At (Ty.nat i) t1 a4 (.tmp 10) ∧ At (Ty.val x9_0) t1 a4 (.tmp 9) ∧ At (Ty.lst Ty.int raw) t1 a4 (.tmp 0) ∧ At (Ty.nat b) t1 a4 (.tmp 1) ∧ At (Ty.nat n) t1 a4 (.tmp 2) ∧ At (Ty.nat many) t1 a4 (.tmp 3) ∧ Own t1 5 22 1 x9_0 (List.length (rowsOf raw b n i)) (List.map Ty.ints (rowsOf raw b n i)) ∧ (i ≤ many) ∧ n1 = many - i) (many - (0)) ?_ ?_
 ·
  exact ⟨s3, 0, (Value.slice none 0 0), rfl, (((F0.step0 D1.stp).step0 D2.stp).step0 D3.stp), ok3, (cJ (D3.m 0 rfl)), (D3.k (D2.m 0 rfl)), (D3.k (D2.k (D1.k p0))), (D3.k (D2.k (D1.k p1))), (D3.k (D2.k (D1.k p2))), (D3.k (D2.k (D1.k p3))), (cvo (by (first | rfl | simp)) (by (first | rfl | simp)) o1), by omega, rfl⟩
 ·
  rintro n2 a5 w2 ⟨t2, i, x9_0, rfl, F4, ok4, q16, q17, q18, q19, q20, q21, o2, hi, rfl⟩
  have hrl := rowsOf_len (raw := raw) (b := b) (n := n) (k := i)
  refine wp_seq (wp_seq ?_)
  refine gI a5 t2 ok4 (gM q16 (gM q21 (gS rfl (fun A B E G H d0 d1 => rP (y_lss (eI d0) (eI d1))) (gE ok4 fun a6 s4 ok5 D4 => ?_)))); have F5 := F4.step0 D4.stp; have q22 := D4.k q16; have q23 := D4.k q17; have q24 := D4.k q18; have q25 := D4.k q19; have q26 := D4.k q20; have o3 := Own.k0 o2 D4.stp; refine tn ?_
  refine cond_p (p := (((i : Nat) : Int) < ((many : Nat) : Int))) (D4.m 2 rfl) (fun c1 => ?_) (fun c1 => ?_)
  ·
   refine wp_skip (tn (wp_seq (wp_block (wp_seq ?_))))
   refine gI a6 s4 ok5 (gM q24 (gM q25 (gM q22 (gT (Ty.nat (b + i)) rfl (fun A B E G H d0 d1 => rP ((y_add (eI d0) (eI d1) wX).mono (fun τ _ h => cN (σ := τ) h))) (gS rfl (fun A B E G H d0 d1 => rP (y_call _ Try.func40 rfl rfl my2 (raw_fn (raw) ((b + i)) _ _ _ (eI d0) (cvi (σ := B) oM (ef d1 rfl)) ))) (gT (Ty.int (wr64 ((rawAt raw ((b + i))) * (7919 : Int)))) rfl (fun A B E G H d0 => rP (y_mulW (eI d0) rfl)) (gM q24 (gM q25 (gM q22 (gT (Ty.nat (b + i)) rfl (fun A B E G H d0 d1 => rP ((y_add (eI d0) (eI d1) wX).mono (fun τ _ h => cN (σ := τ) h))) (gT (Ty.nat ((b + i) + 1)) rfl (fun A B E G H d0 => rP ((y_add (eI d0) rfl wX).mono (fun τ _ h => cN (σ := τ) h))) (gS rfl (fun A B E G H d0 d1 d2 => rP (y_call _ Try.func40 rfl rfl my2 (raw_fn (raw) (((b + i) + 1)) _ _ _ (eI d0) (cvi (σ := B) oM (ef d1 rfl)) ))) (gT (Ty.int (wr64 ((wr64 ((rawAt raw ((b + i))) * (7919 : Int))) + (rawAt raw (((b + i) + 1)))))) rfl (fun A B E G H d0 d1 => rP (y_addW (eI d0) (eI d1))) (gM q26 ?_))))))))))))))
   refine gS rfl (fun A B E G H d0 d1 d2 => rP (y_call _ Try.func31 rfl rfl my2 (rRowOf_fn ((wr64 ((wr64 ((rawAt raw ((b + i))) * (7919 : Int))) + (rawAt raw (((b + i) + 1)))))) (n) _ _ _ (cvi (σ := B) (by first | omega | exact hr _ | assumption) (ef d0 rfl)) (eI d1) (by first | omega | exact hr _ | assumption) (by first | omega | exact hr _ | assumption)))) (gB 0 (gE ok5 fun a7 s5 ok6 D5 => ?_)); have q30 := D5.k q23; have o4 := Own.k0 o3 D5.stp; refine tn ?_
   refine gI a7 s5 ok6 (gM q30 (gM (D5.m 15 rfl) (gT (Ty.sl 1 1 [(Ty.lst Ty.int (atL n (pick ((wr64 ((wr64 ((rawAt raw ((b + i))) * (7919 : Int))) + (rawAt raw (((b + i) + 1)))))) (fct n))))]) rfl (fun A B E G H d0 => rP (y_build1o Try.underlying24 Try.inf22 rfl (one_sl) (eI d0))) (gE2 ok6 fun a8 s6 ok7 D6 => ?_)))); have o5 := Own.k0 o4 D6.stp
   have q42 : At (Ty.val x9_0) s6 a8 (.tmp 32) := D6.done 0 dE
   have q43 := D6.m 2 rfl
   have b2 := sl_le q43
   refine tL ok7 (YldM.toL (m_append Try.underlying24 Try.inf22 dE rfl dE (al (R := (Pr.own 5 22 1 (List.length (rowsOf raw b n i)) (List.map Ty.ints (rowsOf raw b n i)))) q42 o5) q43 (by intro U hU; simp at hU; subst hU; exact one_sl) oM oM)) fun a9 s7 hs1 ok8 r1 sm1 => ?_
   have q45 := kq hs1 sm1 9 (D6.k q30)
   obtain ⟨x1, hx1⟩ : ∃ x, a9.eval (.tmp 35) = x := ⟨_, rfl⟩
   have q50 : At (Ty.val x1) s7 a9 (.tmp 35) := hx1
   have o6 := al2 (R := (Pr.own 5 22 1 (List.length ((rowsOf raw b n i) ++ [(atL n (pick ((wr64 ((wr64 ((rawAt raw ((b + i))) * (7919 : Int))) + (rawAt raw (((b + i) + 1)))))) (fct n)))])) (List.map Ty.ints ((rowsOf raw b n i) ++ [(atL n (pick ((wr64 ((wr64 ((rawAt raw ((b + i))) * (7919 : Int))) + (rawAt raw (((b + i) + 1)))))) (fct n)))])))) hx1 (cvo (by simp) (by first | (rw [List.map_append]; rfl) | simp) r1)
   clear r1
   refine tL ok8 (Yld.toL (y_as q50)) fun a10 s8 hs2 ok9 r2 sm2 => ?_
   have q56 : At (Ty.val x1) s8 a10 (.tmp 9) := r2
   clear r2; refine wpList_nil (bn (tn ?_))
   refine gI a10 s8 ok9 (gM (kq hs2 sm2 10 (kq hs1 sm1 10 (D6.k (D5.k q22)))) (gT (Ty.nat (i + 1)) rfl (fun A B E G H d0 => rP ((y_add (eI d0) rfl wX).mono (fun τ _ h => cN (σ := τ) h))) (gB 0 (gE ok9 fun a11 s9 ok10 D7 => ?_)))); have o8 := Own.k0 (Own.kl o6 hs2) D7.stp
   exact tn ⟨many - ((i+1)), by omega, s9, (i+1), x1, rfl, (((((F5.step0 D5.stp).step0 D6.stp).sl hs1).sl hs2).step0 D7.stp), ok10, (cJ (D7.m 2 rfl)), (D7.k q56), (D7.k (kq hs2 sm2 0 (kq hs1 sm1 0 (D6.k (D5.k q24))))), (D7.k (kq hs2 sm2 1 (kq hs1 sm1 1 (D6.k (D5.k q25))))), (D7.k (kq hs2 sm2 2 (kq hs1 sm1 2 (D6.k (D5.k q26))))), (D7.k (kq hs2 sm2 3 (kq hs1 sm1 3 (D6.k (D5.k (D4.k q21)))))), (cvo (by (first | (simp [rowsOf_len]; done) | (rw [rowsOf_succ]; rfl))) (by (first | (simp [rowsOf_len]; done) | (rw [rowsOf_succ]; rfl))) o8), by omega, rfl⟩
  ·
   refine wp_exit (tx (tx (bx (tn (wp_seq ?_)))))
   refine gI a6 s4 ok5 (gM q23 (gB 0 (gE ok5 fun a12 s10 ok11 D8 => ?_))); have o9 := Own.k0 o3 D8.stp
   have q63 : At (Ty.val x9_0) s10 a12 (.tmp 8) := D8.done 1
   refine tn (wp_ret ?_)
   obtain ⟨t3, e1, h1, q64⟩ := Own.seal o9 dE
   rw [← e1]
   have F12 := (F5.step0 D8.stp).step h1 dE
   have q65 : At (Ty.lst Ty.ints (rowsOf raw b n i)) t3 a12 (.tmp 8) := by have e : a12.eval (.tmp 8) = x9_0 := q63; show Ty.has _ _ _; rw [e]; exact q64
   exact retL1 rfl ok11 F12 (cvt (by (rw [show i = many by omega])) q65)


set_option maxHeartbeats 4000000 in
set_option maxRecDepth 100000 in
theorem rLeadsOf_fn (raw : List Int) (many : Nat) (calls : Nat) (σ : GW)  (v0 v1 v2 : Value) (hv0 : Ty.has (Ty.lst Ty.int raw) σ v0) (hv1 : Ty.has (Ty.nat many) σ v1) (hv2 : Ty.has (Ty.nat calls) σ v2)  (hm : many ≤ 1000) (hc : 0 < calls) (hr : ∀ k, -9223372036854775808 ≤ rawAt raw k ∧ rawAt raw k ≤ 9223372036854775807) :
    FnC Try.prog 32 #[v0, v1, v2] σ (Ty.lst Ty.int (leadsOf raw many calls)) := by
 refine fn_intro0 Try.func32 rfl Try.ntmps32 (Nat.le_of_ble_eq_true rfl) (fun s0 a0 hle F0 ok0 hargs => ?_)
 have p0 := pA hle (hargs 0 _ rfl) hv0
 have b1 := sl_le p0
 have p1 := pA hle (hargs 1 _ rfl) hv1
 have p2 := pA hle (hargs 2 _ rfl) hv2
 clear hargs; refine wp_seq ?_
 refine gI a0 s0 ok0 (gC (Ty.val (Value.slice none 0 0)) (gE ok0 fun a1 s1 ok1 D1 => ?_)); refine tn (wp_seq ?_)
 refine gI a1 s1 ok1 (gC (Ty.val (Value.slice none 0 0)) (gE ok1 fun a2 s2 ok2 D2 => ?_)); refine tn (wp_seq (wp_seq ?_))
 refine gI a2 s2 ok2 (gC (Ty.int (0 : Int)) (gE ok2 fun a3 s3 ok3 D3 => ?_)); refine tn (wp_block ?_)
 have o1 : Own s3 2 3 1 (Value.slice none 0 0) 0 (List.map Ty.int ([] : List Int)) := Own.nil _ _ _ _
 refine loop (fun n1 a4 w1 => ∃ (t1 : GW) (k : Nat) (x7_0 : Value), t1.w = w1 ∧ FromL [] s0 t1 ∧ Ok 23 [] a4 ∧ At (Ty.nat k) t1 a4 (.tmp 8) ∧ At (Ty.val x7_0) t1 a4 (.tmp 7) ∧ At (Ty.lst Ty.int raw) t1 a4 (.tmp 0) ∧ At (Ty.nat many) t1 a4 (.tmp 1) ∧ At (Ty.nat calls) t1 a4 (.tmp 2) ∧ Own t1 2 3 1 x7_0 (List.length (leadsOf raw k calls)) (List.map Ty.int (leadsOf raw k calls)) ∧ (k ≤ many) ∧ n1 = many - k) (many - (0)) ?_ ?_
 ·
  exact ⟨s3, 0, (Value.slice none 0 0), rfl, (((F0.step0 D1.stp).step0 D2.stp).step0 D3.stp), ok3, (cJ (D3.m 0 rfl)), (D3.k (D2.m 0 rfl)), (D3.k (D2.k (D1.k p0))), (D3.k (D2.k (D1.k p1))), (D3.k (D2.k (D1.k p2))), (cvo (by (rfl)) (by (rfl)) o1), by omega, rfl⟩
 ·
  rintro n2 a5 w2 ⟨t2, k, x7_0, rfl, F4, ok4, q13, q14, q15, q16, q17, o2, hk, rfl⟩
  have hll := leadsOf_len raw k calls
  have hrk := hr k
  refine wp_seq (wp_seq ?_)
  refine gI a5 t2 ok4 (gM q13 (gM q16 (gS rfl (fun A B E G H d0 d1 => rP (y_lss (eI d0) (eI d1))) (gE ok4 fun a6 s4 ok5 D4 => ?_)))); have F5 := F4.step0 D4.stp; have q18 := D4.k q13; have q19 := D4.k q14; have q20 := D4.k q15; have q22 := D4.k q17; have o3 := Own.k0 o2 D4.stp; refine tn ?_
  refine cond_p (p := (((k : Nat) : Int) < ((many : Nat) : Int))) (D4.m 2 rfl) (fun c1 => ?_) (fun c1 => ?_)
  ·
   refine wp_skip (tn (wp_seq (wp_block ?_)))
   refine gI a6 s4 ok5 (gM q19 (gM q20 (gM q18 (gS rfl (fun A B E G H d0 d1 => rP (y_call _ Try.func40 rfl rfl my2 (raw_fn (raw) (k) _ _ _ (eI d0) (eI d1) ))) (gM q22 (gS rfl (fun A B E G H d0 d1 d2 => rP (y_call _ Try.func15 rfl rfl my2 (pick_fn ((rawAt raw k)) (calls) _ _ _ (cvi (σ := B) oM (ef d0 rfl)) (cvi (σ := B) oM (ef d1 rfl)) oM oM))) (gT (Ty.sl 1 1 [(Ty.nat (pick ((rawAt raw k)) (calls)))]) rfl (fun A B E G H d0 => rP (y_build1o Try.underlying22 Try.inf3 rfl (one_val rfl) (eI d0))) (gE2 ok5 fun a7 s5 ok6 D5 => ?_)))))))); have o4 := Own.k0 o3 D5.stp
   have q29 : At (Ty.val x7_0) s5 a7 (.tmp 14) := D5.done 0 dE
   have q30 := D5.m 6 rfl
   have b2 := sl_le q30
   refine tL ok6 (YldM.toL (m_append Try.underlying22 Try.inf3 dE rfl dE (al (R := (Pr.own 2 3 1 (List.length (leadsOf raw k calls)) (List.map Ty.int (leadsOf raw k calls)))) q29 o4) q30 (by intro U hU; simp at hU; subst hU; exact one_val rfl) oM oM)) fun a8 s6 hs1 ok7 r1 sm1 => ?_
   have q32 := kq hs1 sm1 7 (D5.k q19)
   obtain ⟨x1, hx1⟩ : ∃ x, a8.eval (.tmp 21) = x := ⟨_, rfl⟩
   have q36 : At (Ty.val x1) s6 a8 (.tmp 21) := hx1
   have o5 := al2 (R := (Pr.own 2 3 1 (List.length ((leadsOf raw k calls) ++ [(((pick ((rawAt raw k)) (calls)) : Nat) : Int)])) (List.map Ty.int ((leadsOf raw k calls) ++ [(((pick ((rawAt raw k)) (calls)) : Nat) : Int)])))) hx1 (cvo (by simp) (by first | (rw [List.map_append]; rfl) | simp) r1)
   clear r1
   refine tL ok7 (Yld.toL (y_as q36)) fun a9 s7 hs2 ok8 r2 sm2 => ?_
   have q41 : At (Ty.val x1) s7 a9 (.tmp 7) := r2
   clear r2; refine wpList_nil (bn (tn ?_))
   refine gI a9 s7 ok8 (gM (kq hs2 sm2 8 (kq hs1 sm1 8 (D5.k q18))) (gT (Ty.int (((k : Nat) : Int) + (1 : Int))) rfl (fun A B E G H d0 => rP (y_add (eI d0) rfl wX)) (gB 0 (gE ok8 fun a10 s8 ok9 D6 => ?_)))); have o7 := Own.k0 (Own.kl o5 hs2) D6.stp
   exact tn ⟨many - ((k+1)), by omega, s8, (k+1), x1, rfl, ((((F5.step0 D5.stp).sl hs1).sl hs2).step0 D6.stp), ok9, (cJ (D6.m 2 rfl)), (D6.k q41), (D6.k (kq hs2 sm2 0 (kq hs1 sm1 0 (D5.k q20)))), (D6.k (kq hs2 sm2 1 (kq hs1 sm1 1 (D5.k (D4.k q16))))), (D6.k (kq hs2 sm2 2 (kq hs1 sm1 2 (D5.k q22)))), (cvo (by (rw [leadsOf_succ])) (by (rw [leadsOf_succ])) o7), by omega, rfl⟩
  ·
   refine wp_exit (tx (tx (bx (tn (wp_seq ?_)))))
   refine gI a6 s4 ok5 (gM q19 (gB 0 (gE ok5 fun a11 s9 ok10 D7 => ?_))); have o8 := Own.k0 o3 D7.stp
   have q47 : At (Ty.val x7_0) s9 a11 (.tmp 6) := D7.done 1
   refine tn (wp_ret ?_)
   obtain ⟨t3, e1, h1, q48⟩ := Own.seal o8 dE
   rw [← e1]
   have F11 := (F5.step0 D7.stp).step h1 dE
   have q49 : At (Ty.lst Ty.int (leadsOf raw k calls)) t3 a11 (.tmp 6) := by have e : a11.eval (.tmp 6) = x7_0 := q47; show Ty.has _ _ _; rw [e]; exact q48
   exact retL1 rfl ok10 F11 (cvt (by (obtain rfl : many = k := oM; rfl)) q49)

theorem Try.inf135 : Info Try.prog 135 (.agg (Array.replicate 12 (.int .i64 0))) 12 96 := by unfold Info; kernel_rfl
set_option maxRecDepth 100000 in
theorem rowCheck_fn (r : List Int) (σ : GW) (v0 : Value) (hv0 : Ty.has (Ty.lst Ty.int r) σ v0)  :
    FnC Try.prog 72 #[v0] σ (Ty.int (rowMay r)) := by
 refine fn_intro Try.func72 rfl Try.ntmps72 (Nat.le_of_ble_eq_true rfl) (fun s0 a0 hle F0 ok0 hargs => ?_)
 have p0 := pA hle (hargs 0 _ rfl) hv0
 have b1 := sl_le p0
 clear hargs; refine wp_seq ?_
 refine gI a0 s0 ok0 (gC (Ty.int (0 : Int)) (gE ok0 fun a1 s1 ok1 D1 => ?_)); have q1 := D1.k p0; refine tn (wp_seq (wp_seq ?_))
 refine gI a1 s1 ok1 (gM q1 (gS rfl (fun A B E G H d0 => rP (y_len Try.underlying22 (eI d0))) (gS rfl (fun A B E G H d0 => rP (y_lss (eI d0) rfl)) (gS rfl (fun A B E G H d0 => rP (y_move (eI d0))) (gS rfl (fun A B E G H d0 => gu G (eI d0) fun hg => y_move (kp (H 0 rfl) E q1)) (gS rfl (fun A B E G H d0 d1 => gu G (eI d1) fun hg => y_len Try.underlying22 ((ef d0 rfl).1 hg)) (gS rfl (fun A B E G H d0 d1 => gu G (eI d1) fun hg => y_gtr ((ef d0 rfl).1 hg) rfl) (gS rfl (fun A B E G H d0 d1 => rP (y_pick_or (eI d0) rfl (eI d1))) (gE ok1 fun a2 s2 ok2 D2 => ?_))))))))); have F2 := (F0.step0 D1.stp).step0 D2.stp; refine tn ?_
 refine cond_t (D2.m 7 rfl) (fun c1 => ?_) (fun c1 => ?_)
 ·
  simp only [Bool.or_eq_true, decide_eq_true_eq] at c1
  refine wp_seq ?_
  refine gI a2 s2 ok2 (gC (Ty.int (1 : Int)) (gE ok2 fun a3 s3 ok3 D3 => ?_)); refine tn (wp_ret (tr ?_))
  exact ret1 rfl ok3 (F2.step0 D3.stp) (cvi (by (exact (rowMay_cnt oM).symm)) (D3.m 0 rfl))
 ·
  obtain ⟨d1, d2⟩ := Bool.or_eq_false_iff.mp c1
  replace d1 := of_decide_eq_false d1
  replace d2 := of_decide_eq_false d2
  refine wp_skip (tn (wp_seq ?_))
  refine gI a2 s2 ok2 (gR (Pr.ownp 11 (List.map Ty.int (List.replicate 12 0))) rfl (by intro A B E G H; exact rP (y_alloc Try.inf135 (by simp [Value.cells]) (alloc_zero 12 (by intro σ; exact rfl)))) (gE ok2 fun a4 s4 ok4 D4 => ?_)); have q5 := D4.k (D2.k q1)
  have q6 : (Pr.ownp 11 (List.map Ty.int (List.replicate 12 0))).has s4 (a4.eval (.tmp 3)) := D4.done 0
  refine tn (wp_seq (wp_seq ?_))
  refine gI a4 s4 ok4 (gM q5 (gS rfl (fun A B E G H d0 => rP (y_len Try.underlying22 (eI d0))) (gT (Ty.int (0 : Int)) rfl (fun A B E G H => rP (y_move rfl)) (gE ok4 fun a5 s5 ok5 D5 => ?_))))
  have q8 : (Pr.ownp 11 (List.map Ty.int (List.replicate 12 0))).has s5 (a5.eval (.tmp 3)) := D5.ko q6 rfl
  refine tn (wp_block ?_)
  refine loop (fun n1 a6 w1 => ∃ (t1 : GW) (k : Nat), t1.w = w1 ∧ From s0 t1 ∧ Ok 40 [] a6 ∧ At (Ty.nat k) t1 a6 (.tmp 16) ∧ (Pr.ownp 11 (List.map Ty.int (seenL r k))).has t1 (a6.eval (.tmp 3)) ∧ At (Ty.lst Ty.int r) t1 a6 (.tmp 0) ∧ At (Ty.lst Ty.int r) t1 a6 (.tmp 14) ∧ At (Ty.nat (List.length r)) t1 a6 (.tmp 15) ∧ (k ≤ r.length) ∧ (Upto r k) ∧ n1 = r.length - k) (r.length - (0)) ?_ ?_
  ·
   exact ⟨s5, 0, rfl, ((F2.step0 D4.stp).step0 D5.stp), ok5, (cJ (D5.m 2 rfl)), (cvop (by (rw [seenL_zero])) q8), (D5.k q5), (D5.m 0 rfl), (D5.m 1 rfl), by omega, Upto.zero r, rfl⟩
  ·
   rintro n2 a7 w2 ⟨t2, k, rfl, F6, ok6, q12, q13, q14, q15, q16, hk, hu, rfl⟩
   have E := seenL_len r k
   refine wp_seq ?_
   refine gI a7 t2 ok6 (gS rfl (fun A B E G H => rP (y_lss (kp (H 16 rfl) E q12) (kp (H 15 rfl) E q16))) (gE ok6 fun a8 s6 ok7 D6 => ?_)); have F7 := F6.step0 D6.stp; have q17 := D6.k q12
   have q18 : (Pr.ownp 11 (List.map Ty.int (seenL r k))).has s6 (a8.eval (.tmp 3)) := D6.ko q13 rfl
   have q20 := D6.k q15; refine tn (wp_seq ?_)
   refine cond_p (p := (((k : Nat) : Int) < (((List.length r) : Nat) : Int))) (D6.m 0 rfl) (fun c2 => ?_) (fun c2 => ?_)
   ·
    refine wp_skip (tn (wp_seq (wp_block (wp_seq ?_))))
    refine gI a8 s6 ok7 (gT (Ty.ref [(Ty.int (r.getD k 0))]) rfl (fun A B E G H => rP (y_index1 Try.underlying22 Try.inf3 (kp (H 14 rfl) E q20) (kp (H 16 rfl) E q17) oM (lst_get Ty.int r 0 k oM))) (gS rfl (fun A B E G H d0 => rP (y_load Try.underlying3 rfl (eI d0) rfl)) (gB 0 (gE ok7 fun a9 s7 ok8 D7 => ?_))))
    have q24 : (Pr.ownp 11 (List.map Ty.int (seenL r k))).has s7 (a9.eval (.tmp 3)) := D7.ko q18 rfl
    have q25 := D7.k (D6.k q14); have q28 := D7.m 2 rfl; refine tn (wp_seq (wp_seq ?_))
    refine gI a9 s7 ok8 (gM q28 (gS rfl (fun A B E G H d0 => rP (y_lss (eI d0) rfl)) (gS rfl (fun A B E G H d0 => rP (y_move (eI d0))) (gS rfl (fun A B E G H d0 => gu G (eI d0) fun hg => y_move (kp (H 5 rfl) E q28)) (gS rfl (fun A B E G H d0 => gu G (eI d0) fun hg => y_move (kp (H 0 rfl) E q25)) (gS rfl (fun A B E G H d0 d1 => gu G (eI d1) fun hg => y_len Try.underlying22 ((ef d0 rfl).1 hg)) (gS rfl (fun A B E G H d0 d1 d2 => gu G (eI d2) fun hg => y_geq ((ef d0 rfl).1 hg) ((ef d1 rfl).1 hg)) (gS rfl (fun A B E G H d0 d1 => rP (y_pick_or (eI d0) rfl (eI d1))) (gS rfl (fun A B E G H d0 d1 => rP (y_move (eI d0))) (gT (Ty.grd (((decide ((r.getD k 0) < (0 : Int))) || (decide ((((List.length r) : Nat) : Int) ≤ (r.getD k 0)))) = false) (Ty.int (r.getD k 0))) rfl (by intro A B E G H d0; refine run_guard G rfl rfl dE (eI d0) (fun hg => ?_); obtain ⟨d3, d4⟩ := Bool.or_eq_false_iff.mp hg; have d3 := of_decide_eq_false d3; have d4 := of_decide_eq_false d4; exact y_move (kp (H 5 rfl) E q28)) (gT (Ty.grd (((decide ((r.getD k 0) < (0 : Int))) || (decide ((((List.length r) : Nat) : Int) ≤ (r.getD k 0)))) = false) (Ty.val (ptrAt (a9.eval (.tmp 3)) ((r.getD k 0)).toNat))) rfl (by intro A B E G H d0 d1; refine run_guard G rfl rfl dE (eI d1) (fun hg => ?_); obtain ⟨d5, d6⟩ := Bool.or_eq_false_iff.mp hg; have d5 := of_decide_eq_false d5; have d6 := of_decide_eq_false d6; exact ownp_index (i := (r.getD k 0)) Try.underlying135 Try.inf3 ((Pr.ownp 11 (List.map Ty.int (seenL r k))).up E q24) (H 3 rfl) ((ef d0 rfl).1 hg) oM oM) ?_)))))))))))
    refine gT (Ty.grd (((decide ((r.getD k 0) < (0 : Int))) || (decide ((((List.length r) : Nat) : Int) ≤ (r.getD k 0)))) = false) (Ty.int ((seenL r k).getD ((r.getD k 0)).toNat 0))) rfl (by intro A B E G H d0 d1; refine run_guard G rfl rfl dE (eI d1) (fun hg => ?_); obtain ⟨d7, d8⟩ := Bool.or_eq_false_iff.mp hg; have d7 := of_decide_eq_false d7; have d8 := of_decide_eq_false d8; exact ownp_load Try.underlying3 rfl ((Pr.ownp 11 (List.map Ty.int (seenL r k))).up E q24) ((ef d0 rfl).1 hg) (lst_get Ty.int (seenL r k) 0 ((r.getD k 0)).toNat oM)) (gT (Ty.grd (((decide ((r.getD k 0) < (0 : Int))) || (decide ((((List.length r) : Nat) : Int) ≤ (r.getD k 0)))) = false) (Ty.bool (decide ((0 : Int) < ((seenL r k).getD ((r.getD k 0)).toNat 0))))) rfl (by intro A B E G H d0 d1; refine run_guard G rfl rfl dE (eI d1) (fun hg => ?_); obtain ⟨d9, d10⟩ := Bool.or_eq_false_iff.mp hg; have d9 := of_decide_eq_false d9; have d10 := of_decide_eq_false d10; exact y_gtr ((ef d0 rfl).1 hg) rfl) (gS rfl (fun A B E G H d0 d1 => rP (y_pick_or (eI d0) rfl (eI d1))) (gE ok8 fun a10 s8 ok9 D8 => ?_))); have F9 := (F7.step0 D7.stp).step0 D8.stp
    have q30 : (Pr.ownp 11 (List.map Ty.int (seenL r k))).has s8 (a10.eval (.tmp 3)) := D8.ko q24 rfl
    refine tn ?_
    refine cond_t (D8.m 13 rfl) (fun c3 => ?_) (fun c3 => ?_)
    ·
     simp only [Bool.or_eq_true, decide_eq_true_eq] at c3
     refine wp_seq ?_
     refine gI a10 s8 ok9 (gC (Ty.int (2 : Int)) (gE ok9 fun a11 s9 ok10 D9 => ?_)); refine tn (wp_ret (tr (br (tr (tr (br (tr ?_)))))))
     exact ret1 rfl ok10 (F9.step0 D9.stp) (cvi (by (by_cases hb : r.getD k 0 < 0 ∨ (r.length : Int) ≤ r.getD k 0; exact (not_row_bd oM oM oM hb).symm; exact (not_row_twice (k := k) oM oM oM oM oM oM).symm)) (D9.m 0 rfl))
    ·
     obtain ⟨d11, d12⟩ := Bool.or_eq_false_iff.mp c3
     obtain ⟨d13, d14⟩ := Bool.or_eq_false_iff.mp d11
     replace d13 := of_decide_eq_false d13
     replace d14 := of_decide_eq_false d14
     replace d12 := of_decide_eq_false d12
     have hq := seenL_bd r k (r.getD k 0).toNat
     refine wp_skip (tn ?_)
     refine gI a10 s8 ok9 (gM (D8.k q28) (gT (Ty.val (ptrAt (a10.eval (.tmp 3)) ((r.getD k 0)).toNat)) rfl (fun A B E G H d0 => rP (ownp_index (i := (r.getD k 0)) Try.underlying135 Try.inf3 ((Pr.ownp 11 (List.map Ty.int (seenL r k))).up E q30) (H 3 rfl) (eI d0) oM oM)) (gS rfl (fun A B E G H d0 => rP (ownp_load Try.underlying3 rfl ((Pr.ownp 11 (List.map Ty.int (seenL r k))).up E q30) (eI d0) (lst_get Ty.int (seenL r k) 0 ((r.getD k 0)).toNat oM))) (gT (Ty.int (((seenL r k).getD ((r.getD k 0)).toNat 0) + (1 : Int))) rfl (fun A B E G H d0 => rP (y_add (eI d0) rfl wX)) (gT (Ty.val (ptrAt (a10.eval (.tmp 3)) ((r.getD k 0)).toNat)) rfl (fun A B E G H d0 d1 d2 d3 d4 => rP (ownp_index (i := (r.getD k 0)) Try.underlying135 Try.inf3 ((Pr.ownp 11 (List.map Ty.int (seenL r k))).up E q30) (H 3 rfl) (eI d0) oM oM)) (gE2 ok9 fun a12 s10 ok11 D10 => ?_)))))); have q37 := (Pr.ownp 11 (List.map Ty.int (seenL r k))).up D10.stp q30
     have q39 : a12.eval (.tmp 3) = a10.eval (.tmp 3) := D10.same 3 rfl
     have q43 := D10.m 3 rfl
     refine tail_step0 (m := 11) (R := (fun _ τ => OwnP τ 11 (a10.eval (.tmp 3)) ((List.map Ty.int (seenL r k)).set ((r.getD k 0)).toNat (Ty.int (((seenL r k).getD ((r.getD k 0)).toNat 0) + (1 : Int)))))) rfl rfl (m_storep Try.inf3 dE q37 (D10.m 4 rfl) (by simp only [List.length_map, List.length_set]; omega) q43 (one_val rfl)) (fun v1 s11 hs1 r1 => ?_)
     have F12 := (F9.step0 D10.stp).step hs1 dE
     have q45 : At (Ty.nat k) s11 a12 (.tmp 16) := kpm hs1 dE rfl (D10.k (D8.k (D7.k q17)))
     have q46 : At (Ty.lst Ty.int r) s11 a12 (.tmp 0) := kpm hs1 dE rfl (D10.k (D8.k q25))
     have q47 : At (Ty.lst Ty.int r) s11 a12 (.tmp 14) := kpm hs1 dE rfl (D10.k (D8.k (D7.k q20)))
     have q48 : At (Ty.nat (List.length r)) s11 a12 (.tmp 15) := kpm hs1 dE rfl (D10.k (D8.k (D7.k (D6.k q16))))
     have q49 : At (Ty.int (((seenL r k).getD ((r.getD k 0)).toNat 0) + (1 : Int))) s11 a12 (.tmp 37) := kpm hs1 dE rfl q43
     have q50 : (Pr.ownp 11 (List.map Ty.int ((seenL r k).set ((r.getD k 0)).toNat (((seenL r k).getD ((r.getD k 0)).toNat 0) + (1 : Int))))).has s11 (a10.eval (.tmp 3)) := (cvop (by simp) r1)
     refine wpList_nil ?_
     have q51 : (Pr.ownp 11 (List.map Ty.int ((seenL r k).set ((r.getD k 0)).toNat (((seenL r k).getD ((r.getD k 0)).toNat 0) + (1 : Int))))).has s11 (a12.eval (.tmp 3)) := al q39 q50
     refine bn (tn ?_)
     refine gI a12 s11 ok11 (gT (Ty.int (((k : Nat) : Int) + (1 : Int))) rfl (fun A B E G H => rP (y_add (kp (H 16 rfl) E q45) rfl wX)) (gS rfl (fun A B E G H d0 => rP (y_move (eI d0))) (gE ok11 fun a14 s12 ok13 D11 => ?_)))
     have q52 : (Pr.ownp 11 (List.map Ty.int ((seenL r k).set ((r.getD k 0)).toNat (((seenL r k).getD ((r.getD k 0)).toNat 0) + (1 : Int))))).has s12 (a14.eval (.tmp 3)) := D11.ko q51 rfl
     exact tn ⟨r.length - ((k+1)), by omega, s12, (k+1), rfl, (F12.step0 D11.stp), ok13, (cJ (D11.m 1 rfl)), (cvop (by (exact congrArg _ (seenL_step r k oM oM oM))) q52), (D11.k q46), (D11.k q47), (D11.k q48), by omega, hu.step oM oM oM oM oM, rfl⟩
   ·
    refine wp_exit (tx (tx (bx (tn (wp_seq ?_)))))
    refine gI a8 s6 ok7 (gC (Ty.int (0 : Int)) (gE ok7 fun a15 s13 ok14 D12 => ?_)); refine tn (wp_ret ?_)
    exact ret1 rfl ok14 (F7.step0 D12.stp) (cvi (by (exact (Upto.row (by have e : k = r.length := oM; rw [← e]; rw [e] at hu; rw [e]; exact hu) oM oM).symm)) (D12.m 0 rfl))


set_option maxHeartbeats 4000000 in
set_option maxRecDepth 100000 in
theorem gCheck_fn (n : Int) (l : List (List Int)) (σ : GW)  (v0 v1 : Value) (hv0 : Ty.has (Ty.int n) σ v0) (hv1 : Ty.has (Ty.lst Ty.ints l) σ v1)   :
    FnC Try.prog 41 #[v0, v1] σ (Ty.int (gensMay n l)) := by
 refine fn_intro0 Try.func41 rfl Try.ntmps41 (Nat.le_of_ble_eq_true rfl) (fun s0 a0 hle F0 ok0 hargs => ?_)
 have p0 := pA hle (hargs 0 _ rfl) hv0
 have p1 := pA hle (hargs 1 _ rfl) hv1
 have b1 := sl_le p1
 clear hargs; refine wp_seq ?_
 refine gI a0 s0 ok0 (gC (Ty.int (0 : Int)) (gE ok0 fun a1 s1 ok1 D1 => ?_)); have q1 := D1.k p0; have q2 := D1.k p1; refine tn (wp_seq (wp_seq ?_))
 refine gI a1 s1 ok1 (gM q1 (gS rfl (fun A B E G H d0 => rP (y_lss (eI d0) rfl)) (gS rfl (fun A B E G H d0 => rP (y_move (eI d0))) (gS rfl (fun A B E G H d0 => gu G (eI d0) fun hg => y_move (kp (H 0 rfl) E q1)) (gS rfl (fun A B E G H d0 d1 => gu G (eI d1) fun hg => y_gtr ((ef d0 rfl).1 hg) rfl) (gS rfl (fun A B E G H d0 d1 => rP (y_pick_or (eI d0) rfl (eI d1))) (gS rfl (fun A B E G H d0 d1 => rP (y_move (eI d0))) (gT (Ty.grd (((decide (n < (1 : Int))) || (decide ((12 : Int) < n))) = false) (Ty.lst Ty.ints l)) rfl (by intro A B E G H d0; refine run_guard G rfl rfl dE (eI d0) (fun hg => ?_); obtain ⟨d1, d2⟩ := Bool.or_eq_false_iff.mp hg; have d1 := of_decide_eq_false d1; have d2 := of_decide_eq_false d2; exact y_move (kp (H 1 rfl) E q2)) (gT (Ty.grd (((decide (n < (1 : Int))) || (decide ((12 : Int) < n))) = false) (Ty.nat (List.length l))) rfl (by intro A B E G H d0 d1; refine run_guard G rfl rfl dE (eI d1) (fun hg => ?_); obtain ⟨d3, d4⟩ := Bool.or_eq_false_iff.mp hg; have d3 := of_decide_eq_false d3; have d4 := of_decide_eq_false d4; exact y_len Try.underlying24 ((ef d0 rfl).1 hg)) (gT (Ty.grd (((decide (n < (1 : Int))) || (decide ((12 : Int) < n))) = false) (Ty.bool (decide ((8 : Int) < (((List.length l) : Nat) : Int))))) rfl (by intro A B E G H d0 d1; refine run_guard G rfl rfl dE (eI d1) (fun hg => ?_); obtain ⟨d5, d6⟩ := Bool.or_eq_false_iff.mp hg; have d5 := of_decide_eq_false d5; have d6 := of_decide_eq_false d6; exact y_gtr ((ef d0 rfl).1 hg) rfl) (gS rfl (fun A B E G H d0 d1 => rP (y_pick_or (eI d0) rfl (eI d1))) (gE ok1 fun a2 s2 ok2 D2 => ?_)))))))))))); have F2 := (F0.step0 D1.stp).step0 D2.stp; refine tn ?_
 refine cond_t (D2.m 10 rfl) (fun c1 => ?_) (fun c1 => ?_)
 ·
  simp only [Bool.or_eq_true, decide_eq_true_eq] at c1
  refine wp_seq ?_
  refine gI a2 s2 ok2 (gC (Ty.int (1 : Int)) (gE ok2 fun a3 s3 ok3 D3 => ?_)); refine tn (wp_ret (tr ?_))
  exact retL1 rfl ok3 (F2.step0 D3.stp) (cvi (by (exact (gensMay_no oM).symm)) (D3.m 0 rfl))
 ·
  obtain ⟨d7, d8⟩ := Bool.or_eq_false_iff.mp c1
  obtain ⟨d9, d10⟩ := Bool.or_eq_false_iff.mp d7
  replace d9 := of_decide_eq_false d9
  replace d10 := of_decide_eq_false d10
  replace d8 := of_decide_eq_false d8
  have hg := gensMay_to (n := n) (l := l) oM
  refine wp_skip (tn (wp_seq (wp_seq ?_)))
  refine gI a2 s2 ok2 (gM (D2.k q2) (gS rfl (fun A B E G H d0 => rP (y_len Try.underlying24 (eI d0))) (gT (Ty.int (0 : Int)) rfl (fun A B E G H => rP (y_move rfl)) (gE ok2 fun a4 s4 ok4 D4 => ?_)))); refine tn (wp_block ?_)
  refine loop (fun n1 a5 w1 => ∃ (t1 : GW) (k : Nat), t1.w = w1 ∧ FromL [] s0 t1 ∧ Ok 35 [] a5 ∧ At (Ty.nat k) t1 a5 (.tmp 21) ∧ At (Ty.int n) t1 a5 (.tmp 0) ∧ At (Ty.lst Ty.ints l) t1 a5 (.tmp 19) ∧ At (Ty.nat (List.length l)) t1 a5 (.tmp 20) ∧ (k ≤ l.length) ∧ (gensTo n (l.drop k) = gensMay n l) ∧ n1 = l.length - k) (l.length - (0)) ?_ ?_
  ·
   exact ⟨s4, 0, rfl, (F2.step0 D4.stp), ok4, (cJ (D4.m 2 rfl)), (D4.k (D2.k q1)), (D4.m 0 rfl), (D4.m 1 rfl), by omega, hg, rfl⟩
  ·
   rintro n2 a6 w2 ⟨t2, k, rfl, F5, ok5, q11, q12, q13, q14, hk, hg0, rfl⟩
   refine wp_seq ?_
   refine gI a6 t2 ok5 (gS rfl (fun A B E G H => rP (y_lss (kp (H 21 rfl) E q11) (kp (H 20 rfl) E q14))) (gE ok5 fun a7 s5 ok6 D5 => ?_)); have F6 := F5.step0 D5.stp; have q15 := D5.k q11; have q17 := D5.k q13; refine tn (wp_seq ?_)
   refine cond_p (p := (((k : Nat) : Int) < (((List.length l) : Nat) : Int))) (D5.m 0 rfl) (fun c2 => ?_) (fun c2 => ?_)
   ·
    refine wp_skip (tn (wp_seq (wp_block (wp_seq ?_))))
    refine gI a7 s5 ok6 (gT (Ty.ref [(Ty.lst Ty.int (l.getD k []))]) rfl (fun A B E G H => rP (y_index1 Try.underlying24 Try.inf22 (kp (H 19 rfl) E q17) (kp (H 21 rfl) E q15) oM (lst_get Ty.ints l [] k oM))) (gS rfl (fun A B E G H d0 => rP (y_load Try.underlying22 rfl (eI d0) rfl)) (gB 0 (gE ok6 fun a8 s6 ok7 D6 => ?_)))); have q24 := D6.m 2 rfl; refine tn (wp_seq (wp_seq ?_))
    refine gI a8 s6 ok7 (gM q24 (gS rfl (fun A B E G H d0 => rP (y_call _ Try.func72 rfl rfl my1 (rowCheck_fn ((l.getD k [])) _ _ (eI d0) ))) (gB 0 (gE ok7 fun a9 s7 ok8 D7 => ?_)))); have q30 := D7.m 2 rfl; refine tn (wp_seq ?_)
    refine gI a9 s7 ok8 (gM q30 (gS rfl (fun A B E G H d0 => rP (y_neq (eI d0) rfl)) (gE ok8 fun a10 s8 ok9 D8 => ?_))); have F9 := ((F6.step0 D6.stp).step0 D7.stp).step0 D8.stp; have q32 := D8.k (D7.k (D6.k (D5.k q12))); refine tn ?_
    refine cond_p (p := ((rowMay ((l.getD k []))) ≠ (0 : Int))) (D8.m 1 rfl) (fun c3 => ?_) (fun c3 => ?_)
    ·
     refine wp_seq ?_
     refine gI a10 s8 ok9 (gM (D8.k q30) (gB 0 (gE ok9 fun a11 s9 ok10 D9 => ?_))); refine tn (wp_ret (tr (br (tr (tr (br (tr ?_)))))))
     exact retL1 rfl ok10 (F9.step0 D9.stp) (cvi (by (exact gens_row hg0 oM (by assumption))) (D9.m 1 rfl))
    ·
     refine wp_skip (tn (wp_seq ?_))
     refine gI a10 s8 ok9 (gM (D8.k (D7.k q24)) (gS rfl (fun A B E G H d0 => rP (y_len Try.underlying22 (eI d0))) (gM q32 (gS rfl (fun A B E G H d0 d1 => rP (y_neq (eI d0) (eI d1))) (gE ok9 fun a12 s10 ok11 D10 => ?_))))); have F11 := F9.step0 D10.stp; refine tn ?_
     refine cond_p (p := ((((List.length (l.getD k [])) : Nat) : Int) ≠ n)) (D10.m 3 rfl) (fun c4 => ?_) (fun c4 => ?_)
     ·
      refine wp_seq ?_
      refine gI a12 s10 ok11 (gC (Ty.int (1 : Int)) (gE ok11 fun a13 s11 ok12 D11 => ?_)); refine tn (wp_ret (br (tr (tr (br (tr ?_))))))
      exact retL1 rfl ok12 (F11.step0 D11.stp) (cvi (by (exact gens_cnt hg0 oM (by assumption) (by assumption))) (D11.m 0 rfl))
     ·
      refine wp_skip (bn (tn ?_))
      refine gI a12 s10 ok11 (gT (Ty.int (((k : Nat) : Int) + (1 : Int))) rfl (fun A B E G H => rP (y_add (kp (H 21 rfl) E (D10.k (D8.k (D7.k (D6.k q15))))) rfl wX)) (gS rfl (fun A B E G H d0 => rP (y_move (eI d0))) (gE ok11 fun a14 s12 ok13 D12 => ?_)))
      exact tn ⟨l.length - ((k+1)), by omega, s12, (k+1), rfl, (F11.step0 D12.stp), ok13, (cJ (D12.m 1 rfl)), (D12.k (D10.k q32)), (D12.k (D10.k (D8.k (D7.k (D6.k q17))))), (D12.k (D10.k (D8.k (D7.k (D6.k (D5.k q14)))))), by omega, gens_step hg0 oM (by assumption) (by assumption), rfl⟩
   ·
    refine wp_exit (tx (tx (bx (tn (wp_seq ?_)))))
    refine gI a7 s5 ok6 (gC (Ty.int (0 : Int)) (gE ok6 fun a15 s13 ok14 D13 => ?_)); refine tn (wp_ret ?_)
    exact retL1 rfl ok14 (F6.step0 D13.stp) (cvi (by (exact gens_end hg0 oM)) (D13.m 0 rfl))


set_option maxRecDepth 100000 in
theorem first_fn (n : Nat) (σ : GW) (v0 : Value) (hv0 : Ty.has (Ty.nat n) σ v0) (hn : n ≤ 1000000) :
    FnC Try.prog 102 #[v0] σ (Ty.lst Ty.int (roundsL n)) := by
 refine fn_intro Try.func102 rfl Try.ntmps102 (Nat.le_of_ble_eq_true rfl) (fun s0 a0 hle F0 ok0 hargs => ?_)
 have p0 := pA hle (hargs 0 _ rfl) hv0
 clear hargs; refine wp_seq ?_
 refine gI a0 s0 ok0 (gC (Ty.val (Value.slice none 0 0)) (gE ok0 fun a1 s1 ok1 D1 => ?_)); refine tn (wp_seq ?_)
 refine gI a1 s1 ok1 (gM (D1.k p0) (gR (Pr.own 11 3 1 n (List.map Ty.int (List.replicate n 0))) rfl (by intro A B E G H d0 d1; have e0 := ed d0 rfl rfl rfl; exact rP ((y_make (k := 11) (T := Ty.int 0) (n := n) Try.underlying22 Try.inf3 rfl (fun _ => rfl) e0 e0 oM oM).mono (fun _ _ h => cvo (by simp) (by simp) h))) (gR (Pr.own 11 3 1 n (List.map Ty.int (List.replicate n 0))) rfl (by intro A B E G H d0 d1 d2; have e1 : (Pr.own 11 3 1 n (List.map Ty.int (List.replicate n 0))).has B (A.eval (.tmp 6)) := d0 rfl; exact rP (y_assign e1)) (gE ok1 fun a2 s2 ok2 D2 => ?_))))
 have q2 : (Pr.own 11 3 1 n (List.map Ty.int (List.replicate n 0))).has s2 (a2.eval (.tmp 3)) := D2.done 2
 refine tn (wp_seq (wp_seq ?_))
 refine gI a2 s2 ok2 (gT (Ty.val (a2.eval (.tmp 3))) rfl (fun A B E G H => rP (y_move (H 3 rfl))) (gT (Ty.nat n) rfl (fun A B E G H d0 => rP (own_len Try.underlying22 (al (eI d0) ((Pr.own 11 3 1 n (List.map Ty.int (List.replicate n 0))).up E q2)))) (gT (Ty.int (0 : Int)) rfl (fun A B E G H => rP (y_move rfl)) (gE ok2 fun a3 s3 ok3 D3 => ?_))))
 have q3 : (Pr.own 11 3 1 n (List.map Ty.int (List.replicate n 0))).has s3 (a3.eval (.tmp 3)) := D3.ko q2 rfl
 refine tn (wp_block ?_)
 refine loop (fun n1 a4 w1 => ∃ (t1 : GW) (k : Nat), t1.w = w1 ∧ From s0 t1 ∧ Ok 18 [] a4 ∧ At (Ty.nat k) t1 a4 (.tmp 9) ∧ (Pr.own 11 3 1 (List.length (firstTo n k)) (List.map Ty.int (firstTo n k))).has t1 (a4.eval (.tmp 3)) ∧ At (Ty.nat n) t1 a4 (.tmp 8) ∧ (k ≤ n) ∧ n1 = n - k) (n - (0)) ?_ ?_
 ·
  exact ⟨s3, 0, rfl, (((F0.step0 D1.stp).step0 D2.stp).step0 D3.stp), ok3, (cJ (D3.m 2 rfl)), (cvo (by (simp [firstTo_zero])) (by (simp [firstTo_zero])) q3), (D3.m 1 rfl), by omega, rfl⟩
 ·
  rintro n2 a5 w2 ⟨t2, k, rfl, F4, ok4, q6, q7, q8, hk, rfl⟩
  have hp := firstTo_len n k
  refine wp_seq ?_
  refine gI a5 t2 ok4 (gS rfl (fun A B E G H => rP (y_lss (kp (H 9 rfl) E q6) (kp (H 8 rfl) E q8))) (gE ok4 fun a6 s4 ok5 D4 => ?_)); have F5 := F4.step0 D4.stp; have q9 := D4.k q6
  have q10 : (Pr.own 11 3 1 (List.length (firstTo n k)) (List.map Ty.int (firstTo n k))).has s4 (a6.eval (.tmp 3)) := D4.ko q7 rfl
  refine tn (wp_seq ?_)
  refine cond_p (p := (((k : Nat) : Int) < ((n : Nat) : Int))) (D4.m 0 rfl) (fun c1 => ?_) (fun c1 => ?_)
  ·
   refine wp_skip (tn (wp_seq (wp_block (wp_seq ?_))))
   refine gI a6 s4 ok5 (gM q9 (gB 0 (gE ok5 fun a7 s5 ok6 D5 => ?_)))
   have q14 : (Pr.own 11 3 1 (List.length (firstTo n k)) (List.map Ty.int (firstTo n k))).has s5 (a7.eval (.tmp 3)) := D5.ko q10 rfl
   have q16 := D5.m 1 rfl; refine tn ?_
   refine gI a7 s5 ok6 (gT (Ty.val (a7.eval (.tmp 3))) rfl (fun A B E G H => rP (y_move (H 3 rfl))) (gM q16 (gM q16 (gT (Ty.val (cellPtr (a7.eval (.tmp 3)) k)) rfl (fun A B E G H d0 d1 d2 d3 d4 => rP (own_index1 (i := ((k : Nat) : Int)) Try.underlying22 Try.inf3 ((Pr.own 11 3 1 (List.length (firstTo n k)) (List.map Ty.int (firstTo n k))).up E q14) (eI d0) (eI d1) oM oM)) (gE2 ok6 fun a8 s6 ok7 D6 => ?_))))); have q17 := (Pr.own 11 3 1 (List.length (firstTo n k)) (List.map Ty.int (firstTo n k))).up D6.stp q14
   have q19 : a8.eval (.tmp 3) = a7.eval (.tmp 3) := D6.same 3 rfl
   have q21 := D6.m 2 rfl
   refine tail_step0 (m := 11) (R := (fun _ τ => Own τ 11 3 1 (a7.eval (.tmp 3)) (List.length (firstTo n k)) ((List.map Ty.int (firstTo n k)).set k (Ty.nat k)))) rfl rfl (m_store Try.inf3 dE q17 (D6.m 3 rfl) (by simp only [List.length_map, List.length_set]; omega) q21 (one_val rfl)) (fun v1 s7 hs1 r1 => ?_)
   have F8 := ((F5.step0 D5.stp).step0 D6.stp).step hs1 dE
   have q23 : At (Ty.nat k) s7 a8 (.tmp 9) := kpm hs1 dE rfl (D6.k (D5.k q9))
   have q24 : At (Ty.nat n) s7 a8 (.tmp 8) := kpm hs1 dE rfl (D6.k (D5.k (D4.k q8)))
   have q25 : At (Ty.nat k) s7 a8 (.tmp 14) := kpm hs1 dE rfl q21
   have q26 : (Pr.own 11 3 1 (List.length ((firstTo n k).set k ((k : Nat) : Int))) (List.map Ty.int ((firstTo n k).set k ((k : Nat) : Int)))).has s7 (a7.eval (.tmp 3)) := (cvo (by simp) (by simp) r1)
   refine wpList_nil ?_
   have q27 : (Pr.own 11 3 1 (List.length ((firstTo n k).set k ((k : Nat) : Int))) (List.map Ty.int ((firstTo n k).set k ((k : Nat) : Int)))).has s7 (a8.eval (.tmp 3)) := al q19 q26
   refine bn (tn ?_)
   refine gI a8 s7 ok7 (gT (Ty.int (((k : Nat) : Int) + (1 : Int))) rfl (fun A B E G H => rP (y_add (kp (H 9 rfl) E q23) rfl wX)) (gS rfl (fun A B E G H d0 => rP (y_move (eI d0))) (gE ok7 fun a10 s8 ok9 D7 => ?_)))
   have q28 : (Pr.own 11 3 1 (List.length ((firstTo n k).set k ((k : Nat) : Int))) (List.map Ty.int ((firstTo n k).set k ((k : Nat) : Int)))).has s8 (a10.eval (.tmp 3)) := D7.ko q27 rfl
   exact tn ⟨n - ((k+1)), by omega, s8, (k+1), rfl, (F8.step0 D7.stp), ok9, (cJ (D7.m 1 rfl)), (cvo (by (rw [firstTo_step n k])) (by (rw [firstTo_step n k])) q28), (D7.k q24), by omega, rfl⟩
  ·
   refine wp_exit (tx (tx (bx (tn (wp_seq ?_)))))
   refine gI a6 s4 ok5 (gT (Ty.val (a6.eval (.tmp 3))) rfl (fun A B E G H => rP (y_move (H 3 rfl))) (gB 0 (gE ok5 fun a11 s9 ok10 D8 => ?_)))
   have q31 : (Pr.own 11 3 1 (List.length (firstTo n k)) (List.map Ty.int (firstTo n k))).has s9 (a11.eval (.tmp 2)) := al (show _ = _ from D8.done 1) ((Pr.own 11 3 1 (List.length (firstTo n k)) (List.map Ty.int (firstTo n k))).up D8.stp q10)
   refine tn (wp_ret ?_)
   obtain ⟨t3, e1, h1, q32⟩ := Own.seal q31 dE
   rw [← e1]
   have F11 := (F5.step0 D8.stp).step h1 dE
   exact ret1 rfl ok10 F11 (cvt (by (obtain rfl : k = n := oM; rw [firstTo_all])) q32)


set_option maxRecDepth 100000 in
theorem rounds_fn (n : Nat) (σ : GW) (v0 : Value) (hv0 : Ty.has (Ty.nat n) σ v0) (hn : 1 ≤ n ∧ n ≤ 12) :
    FnC Try.prog 74 #[v0] σ (Ty.tup2 (Ty.lst Ty.int (roundsL n)) (Ty.int (0 : Int))) := by
 refine fn_intro Try.func74 rfl Try.ntmps74 (Nat.le_of_ble_eq_true rfl) (fun s0 a0 hle F0 ok0 hargs => ?_)
 have p0 := pA hle (hargs 0 _ rfl) hv0
 clear hargs; refine wp_seq ?_
 refine gI a0 s0 ok0 (gC (Ty.val (Value.slice none 0 0)) (gC (Ty.int (0 : Int)) (gE ok0 fun a1 s1 ok1 D1 => ?_))); have q1 := D1.k p0; refine tn (wp_seq (wp_seq ?_))
 refine gI a1 s1 ok1 (gM q1 (gS rfl (fun A B E G H d0 => rP (y_lss (eI d0) rfl)) (gS rfl (fun A B E G H d0 => rP (y_move (eI d0))) (gS rfl (fun A B E G H d0 => gu G (eI d0) fun hg => y_move (kp (H 0 rfl) E q1)) (gS rfl (fun A B E G H d0 d1 => gu G (eI d1) fun hg => y_gtr ((ef d0 rfl).1 hg) rfl) (gS rfl (fun A B E G H d0 d1 => rP (y_pick_or (eI d0) rfl (eI d1))) (gE ok1 fun a2 s2 ok2 D2 => ?_))))))); refine tn ?_
 refine cond_t (D2.m 5 rfl) (fun c1 => ?_) (fun c1 => ?_)
 ·
  exfalso
  simp only [Bool.or_eq_true, decide_eq_true_eq] at c1; omega
 ·
  obtain ⟨d1, d2⟩ := Bool.or_eq_false_iff.mp c1
  replace d1 := of_decide_eq_false d1
  replace d2 := of_decide_eq_false d2
  refine wp_skip (tn (wp_seq ?_))
  refine gI a2 s2 ok2 (gM (D2.k q1) (gS rfl (fun A B E G H d0 => rP (y_call _ Try.func102 rfl rfl my1 (first_fn (n) _ _ (eI d0) oM))) (gB 0 (gC (Ty.int (0 : Int)) (gE ok2 fun a3 s3 ok3 D3 => ?_))))); refine tn (wp_ret ?_)
  exact ret2 rfl ok3 (((F0.step0 D1.stp).step0 D2.stp).step0 D3.stp) (D3.m 2 rfl) (D3.m 3 rfl)


set_option maxHeartbeats 4000000 in
set_option maxRecDepth 100000 in
theorem cloneS_fn (xs : List Int) (σ : GW)  (v0 : Value) (hv0 : Ty.has (Ty.lst Ty.int xs) σ v0)  (hx2 : xs.length ≤ 1000000) :
    FnC Try.prog 101 #[v0] σ (Ty.lst Ty.int xs) := by
 refine fn_intro0 Try.func101 rfl Try.ntmps101 (Nat.le_of_ble_eq_true rfl) (fun s0 a0 hle F0 ok0 hargs => ?_)
 have p0 := pA hle (hargs 0 _ rfl) hv0
 have b1 := sl_le p0
 clear hargs; refine wp_seq ?_
 refine gI a0 s0 ok0 (gC (Ty.val (Value.slice none 0 0)) (gE ok0 fun a1 s1 ok1 D1 => ?_)); have q1 := D1.k p0; refine tn (wp_seq (wp_seq ?_))
 refine gI a1 s1 ok1 (gM q1 (gT (Ty.nilb xs) rfl (fun A B E G H d0 => rP (y_slnb Try.underlying22 (eI d0) rfl)) (gE ok1 fun a2 s2 ok2 D2 => ?_))); have F2 := (F0.step0 D1.stp).step0 D2.stp; refine tn ?_
 refine cond_nb (D2.m 1 rfl) (fun c1 => ?_) ?_
 ·
  have hxe := c1
  refine wp_seq ?_
  refine gI a2 s2 ok2 (gC (Ty.val (Value.slice none 0 0)) (gE ok2 fun a3 s3 ok3 D3 => ?_)); refine tn (wp_ret (tr ?_))
  exact retL1 rfl ok3 (F2.step0 D3.stp) (nil_lst (by (rw [hxe])) (D3.m 0 rfl))
 ·
  refine wp_skip (tn (wp_seq ?_))
  refine gI a2 s2 ok2 (gR (Pr.own 5 3 1 0 (List.map Ty.int ([] : List Int))) rfl (by intro A B E G H; exact rP ((y_lit0 (k := 5) Try.underlying22 Try.inf3).mono (fun _ _ h => cvo (by simp) (by simp) h))) (gM (D2.k q1) (gE2 ok2 fun a4 s4 ok4 D4 => ?_)))
  obtain ⟨x1, hx1⟩ : ∃ x, a4.eval (.tmp 5) = x := ⟨_, rfl⟩
  have q5 : At (Ty.val x1) s4 a4 (.tmp 5) := hx1
  have o1 := al2 (R := (Pr.own 5 3 1 0 (List.map Ty.int ([] : List Int)))) hx1 (D4.done 0 dE)
  refine tL ok4 (YldM.toL (m_append Try.underlying22 Try.inf3 dE rfl dE (al (R := (Pr.own 5 3 1 0 (List.map Ty.int ([] : List Int)))) q5 o1) (D4.m 1 rfl) (one_map (fun _ => one_val rfl)) oM oM)) fun a5 s5 hs1 ok5 r1 sm1 => ?_
  obtain ⟨x2, hx2⟩ : ∃ x, a5.eval (.tmp 7) = x := ⟨_, rfl⟩
  have q7 : At (Ty.val x2) s5 a5 (.tmp 7) := hx2
  have o2 := al2 (R := (Pr.own 5 3 1 (List.length xs) (List.map Ty.int xs))) hx2 (cvo (by first | (simp; done) | (simp; omega)) (by first | (rw [List.map_append]; rfl) | simp) r1)
  clear r1
  refine tL ok5 (Yld.toL (y_as q7)) fun a6 s6 hs2 ok6 r2 sm2 => ?_
  have q8 : At (Ty.val x2) s6 a6 (.tmp 2) := r2
  clear r2; refine wpList_nil (tn (wp_ret ?_))
  obtain ⟨t1, e1, h1, q9⟩ := Own.seal (Own.kl o2 hs2) dE
  rw [← e1]
  have F7 := (((F2.step0 D4.stp).sl hs1).sl hs2).step h1 dE
  have q10 : At (Ty.lst Ty.int xs) t1 a6 (.tmp 2) := by have e : a6.eval (.tmp 2) = x2 := q8; show Ty.has _ _ _; rw [e]; exact q9
  exact retL1 rfl ok6 F7 q10


set_option maxRecDepth 100000 in
theorem inverse_fn (r : List Int) (σ : GW) (v0 : Value) (hv0 : Ty.has (Ty.lst Ty.int r) σ v0) (hr : IsRow r) :
    FnC Try.prog 65 #[v0] σ (Ty.lst Ty.int (undoL r)) := by
 have hln := hr.le
 refine fn_intro Try.func65 rfl Try.ntmps65 (Nat.le_of_ble_eq_true rfl) (fun s0 a0 hle F0 ok0 hargs => ?_)
 have p0 := pA hle (hargs 0 _ rfl) hv0
 have b1 := sl_le p0
 clear hargs; refine wp_seq ?_
 refine gI a0 s0 ok0 (gC (Ty.val (Value.slice none 0 0)) (gE ok0 fun a1 s1 ok1 D1 => ?_)); have q1 := D1.k p0; refine tn (wp_seq ?_)
 refine gI a1 s1 ok1 (gM q1 (gS rfl (fun A B E G H d0 => rP (y_len Try.underlying22 (eI d0))) (gR (Pr.own 11 3 1 (List.length r) (List.map Ty.int (List.replicate (List.length r) 0))) rfl (by intro A B E G H d0 d1; have e1 := ed d0 rfl rfl rfl; exact rP ((y_make (k := 11) (T := Ty.int 0) (n := (List.length r)) Try.underlying22 Try.inf3 rfl (fun _ => rfl) e1 e1 oM oM).mono (fun _ _ h => cvo (by simp) (by simp) h))) (gR (Pr.own 11 3 1 (List.length r) (List.map Ty.int (List.replicate (List.length r) 0))) rfl (by intro A B E G H d0 d1 d2 d3; have e2 : (Pr.own 11 3 1 (List.length r) (List.map Ty.int (List.replicate (List.length r) 0))).has B (A.eval (.tmp 8)) := d0 rfl; exact rP (y_assign e2)) (gE ok1 fun a2 s2 ok2 D2 => ?_)))))
 have q3 : (Pr.own 11 3 1 (List.length r) (List.map Ty.int (List.replicate (List.length r) 0))).has s2 (a2.eval (.tmp 3)) := D2.done 3
 refine tn (wp_seq (wp_seq ?_))
 refine gI a2 s2 ok2 (gM (D2.k q1) (gS rfl (fun A B E G H d0 => rP (y_len Try.underlying22 (eI d0))) (gT (Ty.int (0 : Int)) rfl (fun A B E G H => rP (y_move rfl)) (gE ok2 fun a3 s3 ok3 D3 => ?_))))
 have q4 : (Pr.own 11 3 1 (List.length r) (List.map Ty.int (List.replicate (List.length r) 0))).has s3 (a3.eval (.tmp 3)) := D3.ko q3 rfl
 refine tn (wp_block ?_)
 refine loop (fun n1 a4 w1 => ∃ (t1 : GW) (k : Nat), t1.w = w1 ∧ From s0 t1 ∧ Ok 22 [] a4 ∧ At (Ty.nat k) t1 a4 (.tmp 11) ∧ (Pr.own 11 3 1 (List.length (undoTo r k)) (List.map Ty.int (undoTo r k))).has t1 (a4.eval (.tmp 3)) ∧ At (Ty.lst Ty.int r) t1 a4 (.tmp 9) ∧ At (Ty.nat (List.length r)) t1 a4 (.tmp 10) ∧ (k ≤ r.length) ∧ n1 = r.length - k) (r.length - (0)) ?_ ?_
 ·
  exact ⟨s3, 0, rfl, (((F0.step0 D1.stp).step0 D2.stp).step0 D3.stp), ok3, (cJ (D3.m 2 rfl)), (cvo (by (simp [undoTo_zero])) (by (simp [undoTo_zero])) q4), (D3.m 0 rfl), (D3.m 1 rfl), by omega, rfl⟩
 ·
  rintro n2 a5 w2 ⟨t2, k, rfl, F4, ok4, q8, q9, q10, q11, hk, rfl⟩
  have hp := undoTo_len r k
  refine wp_seq ?_
  refine gI a5 t2 ok4 (gS rfl (fun A B E G H => rP (y_lss (kp (H 11 rfl) E q8) (kp (H 10 rfl) E q11))) (gE ok4 fun a6 s4 ok5 D4 => ?_)); have F5 := F4.step0 D4.stp; have q12 := D4.k q8
  have q13 : (Pr.own 11 3 1 (List.length (undoTo r k)) (List.map Ty.int (undoTo r k))).has s4 (a6.eval (.tmp 3)) := D4.ko q9 rfl
  have q14 := D4.k q10; refine tn (wp_seq ?_)
  refine cond_p (p := (((k : Nat) : Int) < (((List.length r) : Nat) : Int))) (D4.m 0 rfl) (fun c1 => ?_) (fun c1 => ?_)
  ·
   have hq := hr.at (i := k) oM
   refine wp_skip (tn (wp_seq (wp_block (wp_seq ?_))))
   refine gI a6 s4 ok5 (gM q12 (gT (Ty.ref [(Ty.int (r.getD k 0))]) rfl (fun A B E G H => rP (y_index1 Try.underlying22 Try.inf3 (kp (H 9 rfl) E q14) (kp (H 11 rfl) E q12) oM (lst_get Ty.int r 0 k oM))) (gS rfl (fun A B E G H d0 => rP (y_load Try.underlying3 rfl (eI d0) rfl)) (gB 0 (gB 0 (gE ok5 fun a7 s5 ok6 D5 => ?_))))))
   have q18 : (Pr.own 11 3 1 (List.length (undoTo r k)) (List.map Ty.int (undoTo r k))).has s5 (a7.eval (.tmp 3)) := D5.ko q13 rfl
   refine tn ?_
   refine gI a7 s5 ok6 (gT (Ty.val (a7.eval (.tmp 3))) rfl (fun A B E G H => rP (y_move (H 3 rfl))) (gM (D5.m 4 rfl) (gM (D5.m 3 rfl) (gT (Ty.val (cellPtr (a7.eval (.tmp 3)) ((r.getD k 0)).toNat)) rfl (fun A B E G H d0 d1 d2 d3 d4 => rP (own_index1 (i := (r.getD k 0)) Try.underlying22 Try.inf3 ((Pr.own 11 3 1 (List.length (undoTo r k)) (List.map Ty.int (undoTo r k))).up E q18) (eI d0) (eI d1) oM oM)) (gE2 ok6 fun a8 s6 ok7 D6 => ?_))))); have q23 := (Pr.own 11 3 1 (List.length (undoTo r k)) (List.map Ty.int (undoTo r k))).up D6.stp q18
   have q25 : a8.eval (.tmp 3) = a7.eval (.tmp 3) := D6.same 3 rfl
   have q28 := D6.m 2 rfl
   refine tail_step0 (m := 11) (R := (fun _ τ => Own τ 11 3 1 (a7.eval (.tmp 3)) (List.length (undoTo r k)) ((List.map Ty.int (undoTo r k)).set ((r.getD k 0)).toNat (Ty.nat k)))) rfl rfl (m_store Try.inf3 dE q23 (D6.m 3 rfl) (by simp only [List.length_map, List.length_set]; omega) q28 (one_val rfl)) (fun v1 s7 hs1 r1 => ?_)
   have F8 := ((F5.step0 D5.stp).step0 D6.stp).step hs1 dE
   have q30 : At (Ty.nat k) s7 a8 (.tmp 11) := kpm hs1 dE rfl (D6.k (D5.k q12))
   have q31 : At (Ty.lst Ty.int r) s7 a8 (.tmp 9) := kpm hs1 dE rfl (D6.k (D5.k q14))
   have q32 : At (Ty.nat (List.length r)) s7 a8 (.tmp 10) := kpm hs1 dE rfl (D6.k (D5.k (D4.k q11)))
   have q33 : At (Ty.nat k) s7 a8 (.tmp 18) := kpm hs1 dE rfl q28
   have q34 : (Pr.own 11 3 1 (List.length ((undoTo r k).set ((r.getD k 0)).toNat ((k : Nat) : Int))) (List.map Ty.int ((undoTo r k).set ((r.getD k 0)).toNat ((k : Nat) : Int)))).has s7 (a7.eval (.tmp 3)) := (cvo (by simp) (by simp) r1)
   refine wpList_nil ?_
   have q35 : (Pr.own 11 3 1 (List.length ((undoTo r k).set ((r.getD k 0)).toNat ((k : Nat) : Int))) (List.map Ty.int ((undoTo r k).set ((r.getD k 0)).toNat ((k : Nat) : Int)))).has s7 (a8.eval (.tmp 3)) := al q25 q34
   refine bn (tn ?_)
   refine gI a8 s7 ok7 (gT (Ty.int (((k : Nat) : Int) + (1 : Int))) rfl (fun A B E G H => rP (y_add (kp (H 11 rfl) E q30) rfl wX)) (gS rfl (fun A B E G H d0 => rP (y_move (eI d0))) (gE ok7 fun a10 s8 ok9 D7 => ?_)))
   have q36 : (Pr.own 11 3 1 (List.length ((undoTo r k).set ((r.getD k 0)).toNat ((k : Nat) : Int))) (List.map Ty.int ((undoTo r k).set ((r.getD k 0)).toNat ((k : Nat) : Int)))).has s8 (a10.eval (.tmp 3)) := D7.ko q35 rfl
   exact tn ⟨r.length - ((k+1)), by omega, s8, (k+1), rfl, (F8.step0 D7.stp), ok9, (cJ (D7.m 1 rfl)), (cvo (by (rw [undoTo_step r k hr oM])) (by (rw [undoTo_step r k hr oM])) q36), (D7.k q31), (D7.k q32), by omega, rfl⟩
  ·
   refine wp_exit (tx (tx (bx (tn (wp_seq ?_)))))
   refine gI a6 s4 ok5 (gT (Ty.val (a6.eval (.tmp 3))) rfl (fun A B E G H => rP (y_move (H 3 rfl))) (gB 0 (gE ok5 fun a11 s9 ok10 D8 => ?_)))
   have q40 : (Pr.own 11 3 1 (List.length (undoTo r k)) (List.map Ty.int (undoTo r k))).has s9 (a11.eval (.tmp 2)) := al (show _ = _ from D8.done 1) ((Pr.own 11 3 1 (List.length (undoTo r k)) (List.map Ty.int (undoTo r k))).up D8.stp q13)
   refine tn (wp_ret ?_)
   obtain ⟨t3, e1, h1, q41⟩ := Own.seal q40 dE
   rw [← e1]
   have F11 := (F5.step0 D8.stp).step h1 dE
   exact ret1 rfl ok10 F11 (cvt (by (obtain rfl : k = r.length := oM; rw [undoTo_all r hr])) q41)


set_option maxRecDepth 100000 in
theorem product_fn (a : List Int) (b : List Int) (σ : GW) (v0 v1 : Value) (hv0 : Ty.has (Ty.lst Ty.int a) σ v0) (hv1 : Ty.has (Ty.lst Ty.int b) σ v1) (hl : a.length = b.length) (hbd : ∀ i, i < b.length → 0 ≤ b.getD i 0 ∧ b.getD i 0 < a.length) (E : a.length ≤ 1000000) :
    FnC Try.prog 64 #[v0, v1] σ (Ty.lst Ty.int (byL a b)) := by
 refine fn_intro Try.func64 rfl Try.ntmps64 (Nat.le_of_ble_eq_true rfl) (fun s0 a0 hle F0 ok0 hargs => ?_)
 have p0 := pA hle (hargs 0 _ rfl) hv0
 have b1 := sl_le p0
 have p1 := pA hle (hargs 1 _ rfl) hv1
 have b2 := sl_le p1
 clear hargs; refine wp_seq ?_
 refine gI a0 s0 ok0 (gC (Ty.val (Value.slice none 0 0)) (gE ok0 fun a1 s1 ok1 D1 => ?_)); have q1 := D1.k p0; refine tn (wp_seq ?_)
 refine gI a1 s1 ok1 (gM q1 (gS rfl (fun A B E G H d0 => rP (y_len Try.underlying22 (eI d0))) (gR (Pr.own 11 3 1 (List.length a) (List.map Ty.int (List.replicate (List.length a) 0))) rfl (by intro A B E G H d0 d1; have e1 := ed d0 rfl rfl rfl; exact rP ((y_make (k := 11) (T := Ty.int 0) (n := (List.length a)) Try.underlying22 Try.inf3 rfl (fun _ => rfl) e1 e1 oM oM).mono (fun _ _ h => cvo (by simp) (by simp) h))) (gR (Pr.own 11 3 1 (List.length a) (List.map Ty.int (List.replicate (List.length a) 0))) rfl (by intro A B E G H d0 d1 d2 d3; have e2 : (Pr.own 11 3 1 (List.length a) (List.map Ty.int (List.replicate (List.length a) 0))).has B (A.eval (.tmp 10)) := d0 rfl; exact rP (y_assign e2)) (gE ok1 fun a2 s2 ok2 D2 => ?_)))))
 have q5 : (Pr.own 11 3 1 (List.length a) (List.map Ty.int (List.replicate (List.length a) 0))).has s2 (a2.eval (.tmp 5)) := D2.done 3
 refine tn (wp_seq (wp_seq ?_))
 refine gI a2 s2 ok2 (gM (D2.k (D1.k p1)) (gS rfl (fun A B E G H d0 => rP (y_len Try.underlying22 (eI d0))) (gT (Ty.int (0 : Int)) rfl (fun A B E G H => rP (y_move rfl)) (gE ok2 fun a3 s3 ok3 D3 => ?_))))
 have q7 : (Pr.own 11 3 1 (List.length a) (List.map Ty.int (List.replicate (List.length a) 0))).has s3 (a3.eval (.tmp 5)) := D3.ko q5 rfl
 refine tn (wp_block ?_)
 refine loop (fun n1 a4 w1 => ∃ (t1 : GW) (k : Nat), t1.w = w1 ∧ From s0 t1 ∧ Ok 27 [] a4 ∧ At (Ty.nat k) t1 a4 (.tmp 13) ∧ (Pr.own 11 3 1 (List.length (byTo a b k)) (List.map Ty.int (byTo a b k))).has t1 (a4.eval (.tmp 5)) ∧ At (Ty.lst Ty.int a) t1 a4 (.tmp 0) ∧ At (Ty.lst Ty.int b) t1 a4 (.tmp 11) ∧ At (Ty.nat (List.length b)) t1 a4 (.tmp 12) ∧ (k ≤ b.length) ∧ n1 = b.length - k) (b.length - (0)) ?_ ?_
 ·
  exact ⟨s3, 0, rfl, (((F0.step0 D1.stp).step0 D2.stp).step0 D3.stp), ok3, (cJ (D3.m 2 rfl)), (cvo (by (simp [byTo_zero])) (by (simp [byTo_zero])) q7), (D3.k (D2.k q1)), (D3.m 0 rfl), (D3.m 1 rfl), by omega, rfl⟩
 ·
  rintro n2 a5 w2 ⟨t2, k, rfl, F4, ok4, q11, q12, q13, q14, q15, hk, rfl⟩
  have hp := byTo_len a b k
  refine wp_seq ?_
  refine gI a5 t2 ok4 (gS rfl (fun A B E G H => rP (y_lss (kp (H 13 rfl) E q11) (kp (H 12 rfl) E q15))) (gE ok4 fun a6 s4 ok5 D4 => ?_)); have F5 := F4.step0 D4.stp; have q16 := D4.k q11
  have q17 : (Pr.own 11 3 1 (List.length (byTo a b k)) (List.map Ty.int (byTo a b k))).has s4 (a6.eval (.tmp 5)) := D4.ko q12 rfl
  have q19 := D4.k q14; refine tn (wp_seq ?_)
  refine cond_p (p := (((k : Nat) : Int) < (((List.length b) : Nat) : Int))) (D4.m 0 rfl) (fun c1 => ?_) (fun c1 => ?_)
  ·
   have hq := hbd k oM
   refine wp_skip (tn (wp_seq (wp_block (wp_seq ?_))))
   refine gI a6 s4 ok5 (gM q16 (gT (Ty.ref [(Ty.int (b.getD k 0))]) rfl (fun A B E G H => rP (y_index1 Try.underlying22 Try.inf3 (kp (H 11 rfl) E q19) (kp (H 13 rfl) E q16) oM (lst_get Ty.int b 0 k oM))) (gS rfl (fun A B E G H d0 => rP (y_load Try.underlying3 rfl (eI d0) rfl)) (gB 0 (gB 0 (gE ok5 fun a7 s5 ok6 D5 => ?_))))))
   have q23 : (Pr.own 11 3 1 (List.length (byTo a b k)) (List.map Ty.int (byTo a b k))).has s5 (a7.eval (.tmp 5)) := D5.ko q17 rfl
   have q24 := D5.k (D4.k q13); refine tn ?_
   refine gI a7 s5 ok6 (gT (Ty.val (a7.eval (.tmp 5))) rfl (fun A B E G H => rP (y_move (H 5 rfl))) (gM (D5.m 3 rfl) (gM q24 (gM (D5.m 4 rfl) (gT (Ty.ref [(Ty.int (a.getD ((b.getD k 0)).toNat 0))]) rfl (fun A B E G H d0 d1 => rP (y_index1 Try.underlying22 Try.inf3 (eI d0) (eI d1) oM (lst_get Ty.int a 0 ((b.getD k 0)).toNat oM))) (gS rfl (fun A B E G H d0 => rP (y_load Try.underlying3 rfl (eI d0) rfl)) (gT (Ty.val (cellPtr (a7.eval (.tmp 5)) k)) rfl (fun A B E G H d0 d1 d2 d3 d4 d5 d6 d7 => rP (own_index1 (i := ((k : Nat) : Int)) Try.underlying22 Try.inf3 ((Pr.own 11 3 1 (List.length (byTo a b k)) (List.map Ty.int (byTo a b k))).up E q23) (eI d0) (eI d1) oM oM)) (gE2 ok6 fun a8 s6 ok7 D6 => ?_)))))))); have q29 := (Pr.own 11 3 1 (List.length (byTo a b k)) (List.map Ty.int (byTo a b k))).up D6.stp q23
   have q31 : a8.eval (.tmp 5) = a7.eval (.tmp 5) := D6.same 5 rfl
   have q35 := D6.m 5 rfl
   refine tail_step0 (m := 11) (R := (fun _ τ => Own τ 11 3 1 (a7.eval (.tmp 5)) (List.length (byTo a b k)) ((List.map Ty.int (byTo a b k)).set k (Ty.int (a.getD ((b.getD k 0)).toNat 0))))) rfl rfl (m_store Try.inf3 dE q29 (D6.m 6 rfl) (by simp only [List.length_map, List.length_set]; omega) q35 (one_val rfl)) (fun v1 s7 hs1 r1 => ?_)
   have F8 := ((F5.step0 D5.stp).step0 D6.stp).step hs1 dE
   have q37 : At (Ty.nat k) s7 a8 (.tmp 13) := kpm hs1 dE rfl (D6.k (D5.k q16))
   have q38 : At (Ty.lst Ty.int a) s7 a8 (.tmp 0) := kpm hs1 dE rfl (D6.k q24)
   have q39 : At (Ty.lst Ty.int b) s7 a8 (.tmp 11) := kpm hs1 dE rfl (D6.k (D5.k q19))
   have q40 : At (Ty.nat (List.length b)) s7 a8 (.tmp 12) := kpm hs1 dE rfl (D6.k (D5.k (D4.k q15)))
   have q41 : At (Ty.int (a.getD ((b.getD k 0)).toNat 0)) s7 a8 (.tmp 23) := kpm hs1 dE rfl q35
   have q42 : (Pr.own 11 3 1 (List.length ((byTo a b k).set k (a.getD ((b.getD k 0)).toNat 0))) (List.map Ty.int ((byTo a b k).set k (a.getD ((b.getD k 0)).toNat 0)))).has s7 (a7.eval (.tmp 5)) := (cvo (by simp) (by simp) r1)
   refine wpList_nil ?_
   have q43 : (Pr.own 11 3 1 (List.length ((byTo a b k).set k (a.getD ((b.getD k 0)).toNat 0))) (List.map Ty.int ((byTo a b k).set k (a.getD ((b.getD k 0)).toNat 0)))).has s7 (a8.eval (.tmp 5)) := al q31 q42
   refine bn (tn ?_)
   refine gI a8 s7 ok7 (gT (Ty.int (((k : Nat) : Int) + (1 : Int))) rfl (fun A B E G H => rP (y_add (kp (H 13 rfl) E q37) rfl wX)) (gS rfl (fun A B E G H d0 => rP (y_move (eI d0))) (gE ok7 fun a10 s8 ok9 D7 => ?_)))
   have q44 : (Pr.own 11 3 1 (List.length ((byTo a b k).set k (a.getD ((b.getD k 0)).toNat 0))) (List.map Ty.int ((byTo a b k).set k (a.getD ((b.getD k 0)).toNat 0)))).has s8 (a10.eval (.tmp 5)) := D7.ko q43 rfl
   exact tn ⟨b.length - ((k+1)), by omega, s8, (k+1), rfl, (F8.step0 D7.stp), ok9, (cJ (D7.m 1 rfl)), (cvo (by (rw [byTo_step a b k])) (by (rw [byTo_step a b k])) q44), (D7.k q38), (D7.k q39), (D7.k q40), by omega, rfl⟩
  ·
   refine wp_exit (tx (tx (bx (tn (wp_seq ?_)))))
   refine gI a6 s4 ok5 (gT (Ty.val (a6.eval (.tmp 5))) rfl (fun A B E G H => rP (y_move (H 5 rfl))) (gB 0 (gE ok5 fun a11 s9 ok10 D8 => ?_)))
   have q49 : (Pr.own 11 3 1 (List.length (byTo a b k)) (List.map Ty.int (byTo a b k))).has s9 (a11.eval (.tmp 4)) := al (show _ = _ from D8.done 1) ((Pr.own 11 3 1 (List.length (byTo a b k)) (List.map Ty.int (byTo a b k))).up D8.stp q17)
   refine tn (wp_ret ?_)
   obtain ⟨t3, e1, h1, q50⟩ := Own.seal q49 dE
   rw [← e1]
   have F11 := (F5.step0 D8.stp).step h1 dE
   exact ret1 rfl ok10 F11 (cvt (by (obtain rfl : k = b.length := oM; rw [byTo_all a b hl])) q50)

theorem Try.inf93 : Info Try.prog 93 (.slice none 0 0) 1 24 := by unfold Info; kernel_rfl
theorem Try.inf108 : Info Try.prog 108 (.pointer none) 1 8 := by unfold Info; kernel_rfl
theorem Try.inf109 : Info Try.prog 109 (.map none) 1 8 := by unfold Info; kernel_rfl
theorem Try.fld95_0 : fieldOf Try.prog 95 0 = some (3, 0) := by kernel_rfl
theorem Try.fld95_2 : fieldOf Try.prog 95 2 = some (93, 2) := by kernel_rfl
theorem Try.fld111_0 : fieldOf Try.prog 111 0 = some (3, 0) := by kernel_rfl
theorem Try.fld111_1 : fieldOf Try.prog 111 1 = some (109, 1) := by kernel_rfl
set_option maxHeartbeats 4000000 in
set_option maxRecDepth 100000 in
theorem sift_fn (gv : Value) (gs : Value) (cs : Value) (us : List Value) (n : Nat) (k : Nat) (c : Nat → Lev) (r : List Int) (σ : GW) (hlow : Low [41, 42] σ) (v0 v1 v2 : Value) (hv0 : Ty.has (Ty.val gv) σ v0) (hv1 : Ty.has (Ty.nat k) σ v1) (hv2 : Ty.has (Ty.lst Ty.int r) σ v2) (ho_gv : OwnP σ 41 gv [(Ty.nat n), (Ty.val gs), (Ty.val cs)]) (ho_cs : ChnU σ 42 22 108 cs n c us) (hw : WC n c) (hkn : k ≤ n) (hr : RowN n r) (hf : Fx k r) :
    FnL Try.prog 77 #[v0, v1, v2] σ [41, 42] (fun v τ => (Ty.has (Ty.tup2 (Ty.nat (sftL n c k r).1) (Ty.lst Ty.int (sftL n c k r).2)) τ v) ∧ (OwnP τ 41 gv [(Ty.nat n), (Ty.val gs), (Ty.val cs)]) ∧ (ChnU τ 42 22 108 cs n c us)) := by
 have hnn := hw.nn
 refine fn_introL hlow Try.func77 rfl Try.ntmps77 (Nat.le_of_ble_eq_true rfl) (fun a0 F0 ok0 hargs => ?_)
 have p0 := pB (hargs 0 _ rfl) hv0
 have p1 := pB (hargs 1 _ rfl) hv1
 have p2 := pB (hargs 2 _ rfl) hv2
 have b1 := sl_le p2
 clear hargs; refine wp_seq ?_
 refine gI a0 σ ok0 (gC (Ty.int (0 : Int)) (gC (Ty.val (Value.slice none 0 0)) (gE ok0 fun a1 s1 ok1 D1 => ?_))); have o1 := OwnP.k0 ho_gv D1.stp; have o2 := ChnU.k0 ho_cs D1.stp; refine tn (wp_seq (wp_block ?_))
 refine loop (fun n1 a2 w1 => ∃ (t1 : GW) (j : Nat) (q : (List Int)), t1.w = w1 ∧ FromL [41, 42] σ t1 ∧ Ok 49 [] a2 ∧ At (Ty.nat j) t1 a2 (.tmp 1) ∧ At (Ty.lst Ty.int q) t1 a2 (.tmp 2) ∧ At (Ty.val gv) t1 a2 (.tmp 0) ∧ OwnP t1 41 gv [(Ty.nat n), (Ty.val gs), (Ty.val cs)] ∧ ChnU t1 42 22 108 cs n c us ∧ (j ≤ n) ∧ (RowN n q) ∧ (Fx j q) ∧ (sftL n c j q = sftL n c k r) ∧ n1 = n - j) (n - (k)) ?_ ?_
 ·
  exact ⟨s1, k, r, rfl, (F0.step0 D1.stp), ok1, (cJ (D1.k p1)), (cvt (by (first | rfl | omega | (simp_all; done) | (simp_all; omega))) (D1.k p2)), (D1.k p0), o1, o2, hkn, hr, hf, rfl, rfl⟩
 ·
  rintro n2 a3 w2 ⟨t2, j, q, rfl, F2, ok2, q4, q5, q6, o3, o4, hj, hq, hfj, E, rfl⟩
  have hql := hq.len
  refine wp_seq (wp_seq ?_)
  refine gI a3 t2 ok2 (gM q4 (gM q6 (gT (Ty.val gv) rfl (fun A B E G H d0 => rP (y_nilp (OwnP.k0 o3 E) (eI d0))) (gT (Ty.val (ptrAt gv 0)) rfl (fun A B E G H d0 => rP (ownp_field Try.fld95_0 Try.inf3 dE (OwnP.k0 o3 E) (eI d0))) (gS rfl (fun A B E G H d0 => rP (ownp_load Try.underlying3 rfl (OwnP.k0 o3 E) (eI d0) rfl)) (gS rfl (fun A B E G H d0 d1 => rP (y_lss (eI d0) (eI d1))) (gE ok2 fun a4 s2 ok3 D2 => ?_))))))); have F3 := F2.step0 D2.stp; have q7 := D2.k q4; have q8 := D2.k q5; have q9 := D2.k q6; have o5 := OwnP.k0 o3 D2.stp; have o6 := ChnU.k0 o4 D2.stp; refine tn ?_
  refine cond_p (p := (((j : Nat) : Int) < ((n : Nat) : Int))) (D2.m 5 rfl) (fun c1 => ?_) (fun c1 => ?_)
  ·
   refine wp_skip (tn (wp_seq (wp_block (wp_seq ?_))))
   have o7 : Own s2 42 108 1 cs n (List.map Ty.val us) := ChnU.row o6
   have hul1 := ChnU.ul o6
   refine gI a4 s2 ok3 (gM q9 (gT (Ty.val gv) rfl (fun A B E G H d0 => rP (y_nilp (OwnP.k0 o5 E) (eI d0))) (gT (Ty.val (ptrAt gv 2)) rfl (fun A B E G H d0 => rP (ownp_field Try.fld95_2 Try.inf93 dE (OwnP.k0 o5 E) (eI d0))) (gS rfl (fun A B E G H d0 => rP (ownp_load Try.underlying93 rfl (OwnP.k0 o5 E) (eI d0) rfl)) (gM q7 (gT (Ty.val (cellPtr cs j)) rfl (fun A B E G H d0 d1 => rP (own_index1 (i := ((j : Nat) : Int)) Try.underlying93 Try.inf108 (Own.k0 o7 E) (eI d0) (eI d1) oM oM)) (gS rfl (fun A B E G H d0 => rP (own_load Try.underlying108 rfl (Own.k0 o7 E) (eI d0) (lst_get Ty.val us undef j oM))) (gB 0 (gE ok3 fun a5 s3 ok4 D3 => ?_))))))))); have q12 := D3.k q8; have o8 := OwnP.k0 o5 D3.stp; have o9 := Own.k0 o7 D3.stp; have o10 := ChnU.k0 o6 D3.stp; have q14 := D3.m 7 rfl
   obtain ⟨ms1, rs1, hN1⟩ := o10
   have o11 : ChnU s3 42 22 108 cs n c us := ⟨ms1, rs1, hN1⟩
   have hl1 := hN1.lev j oM
   obtain ⟨mq1, hmq1⟩ : ∃ x_, ms1 j = x_ := ⟨_, rfl⟩
   obtain ⟨rq1, hrq1⟩ : ∃ x_, rs1 j = x_ := ⟨_, rfl⟩
   have o12 : OwnP s3 42 (us.getD j undef) [(Ty.nat j), (Ty.val mq1), (Ty.val rq1)] := by have h_ := hl1.p; simp only [hmq1, hrq1] at h_; exact h_
   have o13 : OwnM Ty.ints kI s3 42 mq1 (c j).orb := by have h_ := hl1.m; simp only [hmq1, hrq1] at h_; exact h_
   refine tn (wp_seq ?_)
   refine gI a5 s3 ok4 (gM q14 (gT (Ty.val (us.getD j undef)) rfl (fun A B E G H d0 => rP (y_nilp (OwnP.k0 o12 E) (eI d0))) (gT (Ty.val (ptrAt (us.getD j undef) 1)) rfl (fun A B E G H d0 => rP (ownp_field Try.fld111_1 Try.inf109 dE (OwnP.k0 o12 E) (eI d0))) (gS rfl (fun A B E G H d0 => rP (ownp_load Try.underlying109 rfl (OwnP.k0 o12 E) (eI d0) rfl)) (gM q12 (gM q14 (gT (Ty.val (us.getD j undef)) rfl (fun A B E G H d0 => rP (y_nilp (OwnP.k0 o12 E) (eI d0))) (gT (Ty.val (ptrAt (us.getD j undef) 0)) rfl (fun A B E G H d0 => rP (ownp_field Try.fld111_0 Try.inf3 dE (OwnP.k0 o12 E) (eI d0))) (gS rfl (fun A B E G H d0 => rP (ownp_load Try.underlying3 rfl (OwnP.k0 o12 E) (eI d0) rfl)) (gT (Ty.ref [(Ty.int (q.getD j 0))]) rfl (fun A B E G H d0 d1 => rP (y_index1 Try.underlying22 Try.inf3 (eI d0) (eI d1) oM (lst_get Ty.int q 0 j oM))) (gS rfl (fun A B E G H d0 => rP (y_load Try.underlying3 rfl (eI d0) rfl)) (gT (Ty.tup2 (Ty.lst Ty.int (((c j).orb (q.getD j 0)).getD [])) (Ty.bool (Option.isSome ((c j).orb (q.getD j 0))))) rfl (fun A B E G H d0 d1 => rP (y_lookup2 (i := (q.getD j 0)) (z := []) Try.underlying109 (keyInt Try.underlying3) Try.inf22 (fun _ => sl_nil) (OwnM.k0 o13 E) (eI d0) (eI d1))) (gS rfl (fun A B E G H d0 => rP (y_move (eI d0))) (gT (Ty.lst Ty.int (((c j).orb (q.getD j 0)).getD [])) rfl (fun A B E G H d0 => rP (y_ext2_0 (eI d0))) (gT (Ty.bool (Option.isSome ((c j).orb (q.getD j 0)))) rfl (fun A B E G H d0 d1 => rP (y_ext2_1 (eI d0))) (gB 0 (gB 0 (gE ok4 fun a6 s4 ok5 D4 => ?_)))))))))))))))))); have o14 := OwnP.k0 o8 D4.stp; have o15 := ChnU.k0 o11 D4.stp; have o16 := OwnP.k0 o12 D4.stp; have o17 := OwnM.k0 o13 D4.stp; refine tn (wp_seq (wp_seq ?_))
   refine gI a6 s4 ok5 (gM (D4.m 16 rfl) (gS rfl (fun A B E G H d0 => rP (y_not (eI d0))) (gE ok5 fun a7 s5 ok6 D5 => ?_))); have F6 := ((F3.step0 D3.stp).step0 D4.stp).step0 D5.stp; have q20 := D5.k (D4.k (D3.k q7)); have q21 := D5.k (D4.k q12); have o18 := OwnP.k0 o14 D5.stp; have o19 := ChnU.k0 o15 D5.stp; refine tn ?_
   refine cond_t (D5.m 1 rfl) (fun c2 => ?_) (fun c2 => ?_)
   ·
    have ho : ((c j).orb (q.getD j 0)) = none := (by cases h_ : ((c j).orb (q.getD j 0)) <;> simp_all); have hs2 := E; rw [sft_none oM ho] at hs2
    refine wp_exit (tx ?_)
    refine bo dE ?_
    refine tx (tx (bx (tn (wp_seq ?_))))
    refine gI a7 s5 ok6 (gM q20 (gM q21 (gB 0 (gB 0 (gE ok6 fun a8 s6 ok7 D6 => ?_))))); have o20 := OwnP.k0 o18 D6.stp; have o21 := ChnU.k0 o19 D6.stp; refine tn (wp_ret ?_)
    exact retL2 rfl ok7 (F6.step0 D6.stp) ⟨(hasT2 (cvi (by (rw [← hs2])) (D6.m 2 rfl)) (cvt (by (rw [← hs2])) (D6.m 3 rfl))), o20, o21⟩
   ·
    have ho : ((c j).orb (q.getD j 0)).isSome = true := (by cases h_ : ((c j).orb (q.getD j 0)) <;> simp_all); obtain ⟨hg1, hg2, hg3, hg4, hg5, hg6, hg7⟩ := sift_go hw oM hq hfj ho
    refine wp_skip (tn ?_)
    refine gI a7 s5 ok6 (gM (D5.k (D4.m 15 rfl)) (gS rfl (fun A B E G H d0 => rP (y_call _ Try.func65 rfl rfl my1 (inverse_fn ((((c j).orb (q.getD j 0)).getD [])) _ _ (eI d0) (by assumption)))) (gM q21 (gS rfl (fun A B E G H d0 d1 d2 => rP (y_call _ Try.func64 rfl rfl my2 (product_fn ((undoL ((((c j).orb (q.getD j 0)).getD [])))) (q) _ _ _ (eI d0) (eI d1) (by first | assumption | omega) (by first | assumption | omega) (by first | assumption | omega)))) (gB 0 (gE ok6 fun a9 s7 ok8 D7 => ?_)))))); have o22 := OwnP.k0 o18 D7.stp; have o23 := ChnU.k0 o19 D7.stp; refine bn (tn ?_)
    refine gI a9 s7 ok8 (gM (D7.k q20) (gT (Ty.nat (j + 1)) rfl (fun A B E G H d0 => rP ((y_add (eI d0) rfl wX).mono (fun τ _ h => cN (σ := τ) h))) (gB 0 (gE ok8 fun a10 s8 ok9 D8 => ?_)))); have o24 := OwnP.k0 o22 D8.stp; have o25 := ChnU.k0 o23 D8.stp
    exact tn ⟨n - ((j + 1)), by omega, s8, (j + 1), (byL (undoL (((c j).orb (q.getD j 0)).getD [])) q), rfl, ((F6.step0 D7.stp).step0 D8.stp), ok9, (cJ (D8.m 2 rfl)), (cvt (by (first | rfl | omega | (simp_all; done) | (simp_all; omega))) (D8.k (D7.m 4 rfl))), (D8.k (D7.k (D5.k (D4.k (D3.k q9))))), o24, o25, by omega, hg5, hg6, hg7.trans E, rfl⟩
  ·
   have hs2 := E; rw [show j = n by omega, sft_end (Nat.le_refl n)] at hs2; have ejn : j = n := oM
   refine wp_exit (tx (tx (bx (tn (wp_seq ?_)))))
   refine gI a4 s2 ok3 (gM q7 (gM q8 (gB 0 (gB 0 (gE ok3 fun a11 s9 ok10 D9 => ?_))))); have o26 := OwnP.k0 o5 D9.stp; have o27 := ChnU.k0 o6 D9.stp; refine tn (wp_ret ?_)
   exact retL2 rfl ok10 (F3.step0 D9.stp) ⟨(hasT2 (cvi (by (rw [← hs2]; show ((j : Nat) : Int) = ((n : Nat) : Int); omega)) (D9.m 2 rfl)) (cvt (by (rw [← hs2])) (D9.m 3 rfl))), o26, o27⟩


set_option maxHeartbeats 4000000 in
set_option maxRecDepth 100000 in
theorem cloneRO_fn (x : Value) (xs : List (List Int)) (σ : GW) (hlow : Low [40] σ) (v0 : Value) (hv0 : Ty.has (Ty.val x) σ v0) (ho_x : Own σ 40 22 1 x (List.length xs) (List.map Ty.ints xs)) (hx1 : 1 ≤ xs.length) (hx2 : xs.length ≤ 1000000) :
    FnL Try.prog 115 #[v0] σ [40] (fun v τ => ∃ (z : Value), (Ty.has (Ty.val z) τ v) ∧ (Own τ 40 22 1 x (List.length xs) (List.map Ty.ints xs)) ∧ (Own τ 41 22 1 z (List.length xs) (List.map Ty.ints xs))) := by
 refine fn_introL hlow Try.func115 rfl Try.ntmps115 (Nat.le_of_ble_eq_true rfl) (fun a0 F0 ok0 hargs => ?_)
 have p0 := pB (hargs 0 _ rfl) hv0
 clear hargs; refine wp_seq ?_
 refine gI a0 σ ok0 (gC (Ty.val (Value.slice none 0 0)) (gE ok0 fun a1 s1 ok1 D1 => ?_)); have q1 := D1.k p0; have o1 := Own.k0 ho_x D1.stp; refine tn (wp_seq (wp_seq ?_))
 refine gI a1 s1 ok1 (gM q1 (gT (Ty.bool false) rfl (fun A B E G H d0 => rP (y_ownnil Try.underlying24 (Own.k0 o1 E) oM (eI d0) rfl)) (gE ok1 fun a2 s2 ok2 D2 => ?_))); have o2 := Own.k0 o1 D2.stp; refine tn ?_
 refine cond_t (D2.m 1 rfl) (fun c1 => (by cases c1)) (fun _ => ?_)
 refine wp_skip (tn (wp_seq ?_))
 refine gI a2 s2 ok2 (gR (Pr.own 41 22 1 0 (List.map Ty.ints ([] : List (List Int)))) rfl (by intro A B E G H; exact rP ((y_lit0 (k := 41) Try.underlying24 Try.inf22).mono (fun _ _ h => cvo (by simp) (by simp) h))) (gM (D2.k q1) (gE2 ok2 fun a3 s3 ok3 D3 => ?_))); have o3 := Own.k0 o2 D3.stp
 obtain ⟨x1, hx1⟩ : ∃ x, a3.eval (.tmp 5) = x := ⟨_, rfl⟩
 have q4 : At (Ty.val x1) s3 a3 (.tmp 5) := hx1
 have o4 := al2 (R := (Pr.own 41 22 1 0 (List.map Ty.ints ([] : List (List Int))))) hx1 (D3.done 0 dE)
 have q5 : At (Ty.val x) s3 a3 (.tmp 6) := D3.done 1 dE
 refine tL (R := (fun v τ => Own τ 41 22 1 v (0 + (List.length xs)) ((List.map Ty.ints ([] : List (List Int))) ++ (List.map Ty.ints xs)))) ok3 (YldM.toL (m_appendo Try.underlying24 Try.inf22 dE rfl dE (al (R := (Pr.own 41 22 1 0 (List.map Ty.ints ([] : List (List Int))))) q4 o4) (al (R := (Pr.own 40 22 1 (List.length xs) (List.map Ty.ints xs))) q5 o3) (one_map (fun _ => one_sl)) oM oM)) fun a4 s4 hs1 ok4 r1 sm1 => ?_
 obtain ⟨x2, hx2⟩ : ∃ x, a4.eval (.tmp 7) = x := ⟨_, rfl⟩
 have q6 : At (Ty.val x2) s4 a4 (.tmp 7) := hx2
 have o5 := al2 (R := (Pr.own 41 22 1 (List.length xs) (List.map Ty.ints xs))) hx2 (cvo (by first | (simp; done) | (simp; omega)) (by first | (rw [List.map_append]; rfl) | (rw [List.flatMap_append]; done) | simp) r1)
 clear r1
 refine tL ok4 (Yld.toL (y_as q6)) fun a5 s5 hs2 ok5 r2 sm2 => ?_
 have q7 : At (Ty.val x2) s5 a5 (.tmp 2) := r2
 clear r2; refine wpList_nil (tn (wp_ret ?_))
 exact retL1 rfl ok5 (((((F0.step0 D1.stp).step0 D2.stp).step0 D3.stp).sl hs1).sl hs2) ⟨x2, q7, (Own.kl (Own.kl o3 hs1) hs2), (Own.kl o5 hs2)⟩


end Go.Proofs.Ytkjifbgofckfeaa
